/- Written by a program of this session (wip/myprint.sh): contracts of Go functions of the translation: each call comes to what the Lean function of its name says. -/
import Derived.Test.YtjfgapaohldbkaaZQAll
import Derived.Test.YtjfgapaohldbkaaZQAx8
import Derived.Test.YtjfgapaohldbkaaZQAx15
namespace Go.Proofs.Ytjfgapaohldbkaa.QA
open Go.RowKit Go.Proofs.YtjfgapaohldbkaaW.PrintWords Go.Proofs.YtjfgapaohldbkaaW.PrintLast Go.Proofs.YtjfgapaohldbkaaW.PrintMore
attribute [local go_sem] max2_int min2_int max_two min_two max_three min_three max_four min_four   -- for this text's walks alone
set_option linter.unusedVariables false
set_option linter.unusedSimpArgs false
attribute [local go_sem high] eqA83
def antipoderef14_SameCmd.f (k : Nat) (a0_0 : Int) (a0_1 : Int) (a0_2 : Int) (a0_3 : Int) (a0_4 : Int) (a0_5 : Int) (a0_6 : Int) (a0_7 : Int) (a0_8 : Int) (a0_9 : Int) (a0_10 : Int) (a0_11 : Bool) (l0_12 : List (S65)) (l0_13 : List (S67)) (a1_0 : Int) (a1_1 : Int) (a1_2 : Int) (a1_3 : Int) (a1_4 : Int) (a1_5 : Int) (a1_6 : Int) (a1_7 : Int) (a1_8 : Int) (a1_9 : Int) (a1_10 : Int) (a1_11 : Bool) (l1_12 : List (S65)) (l1_13 : List (S67)) : Option (Bool) := (antipoderef14_Cmd.f k a0_0 a0_1 a0_2 a0_3 a0_4 a0_5 a0_6 a0_7 a0_8 a0_9 a0_10 a0_11 l0_12 l0_13).bind fun t429 => ((antipoderef14_Cmd.f k a1_0 a1_1 a1_2 a1_3 a1_4 a1_5 a1_6 a1_7 a1_8 a1_9 a1_10 a1_11 l1_12 l1_13).bind fun t432 => (some ((strOfNums t429).toList == (strOfNums t432).toList)))
def antipoderef14_SameCmd.T1 : Bool × List (List Nat × List Nat) := (true, [([], []), ([0], [0]), ([1], [1]), ([], []), ([3, 1], [3]), ([4], [4]), ([2, 5], [2, 5]), ([6, 4, 0, 1, 2, 3, 4, 5, 6], [6])])
def antipoderef14_SameCmd.B1 : List Nat := [0, 1, 3, 0, 11, 27, 63, 127]
theorem antipoderef14_SameCmd.tab1 : rtab .any (opsOf Try.f11 1) = antipoderef14_SameCmd.T1 := by kernel_rfl
theorem antipoderef14_SameCmd.bits1 : waitsOk antipoderef14_SameCmd.T1.2 antipoderef14_SameCmd.B1 = true := by kernel_rfl
set_option maxHeartbeats 8000000 in
set_option maxRecDepth 100000 in
theorem antipoderef14_SameCmd.calls (k : Nat) (a0_0 : Int) (a0_1 : Int) (a0_2 : Int) (a0_3 : Int) (a0_4 : Int) (a0_5 : Int) (a0_6 : Int) (a0_7 : Int) (a0_8 : Int) (a0_9 : Int) (a0_10 : Int) (a0_11 : Bool) (A0_12 : Option Addr) (c0_12 : Nat) (l0_12 : List (S65)) (A0_13 : Option Addr) (c0_13 : Nat) (l0_13 : List (S67)) (a1_0 : Int) (a1_1 : Int) (a1_2 : Int) (a1_3 : Int) (a1_4 : Int) (a1_5 : Int) (a1_6 : Int) (a1_7 : Int) (a1_8 : Int) (a1_9 : Int) (a1_10 : Int) (a1_11 : Bool) (A1_12 : Option Addr) (c1_12 : Nat) (l1_12 : List (S65)) (A1_13 : Option Addr) (c1_13 : Nat) (l1_13 : List (S67)) (r : Bool) (w : World) (hr0_12 : Kd.C k65 w A0_12 l0_12.length l0_12) (hc0_12 : l0_12.length ≤ c0_12) (hr0_13 : Kd.C k67 w A0_13 l0_13.length l0_13) (hc0_13 : l0_13.length ≤ c0_13) (hr1_12 : Kd.C k65 w A1_12 l1_12.length l1_12) (hc1_12 : l1_12.length ≤ c1_12) (hr1_13 : Kd.C k67 w A1_13 l1_13.length l1_13) (hc1_13 : l1_13.length ≤ c1_13) (h : antipoderef14_SameCmd.f k a0_0 a0_1 a0_2 a0_3 a0_4 a0_5 a0_6 a0_7 a0_8 a0_9 a0_10 a0_11 l0_12 l0_13 a1_0 a1_1 a1_2 a1_3 a1_4 a1_5 a1_6 a1_7 a1_8 a1_9 a1_10 a1_11 l1_12 l1_13 = some r) :
  Calls Try.prog 11 #[.agg #[.int .i64 a0_0, .int .i64 a0_1, .int .i64 a0_2, .int .i64 a0_3, .int .i64 a0_4, .int .i64 a0_5, .int .i64 a0_6, .int .i64 a0_7, .int .i64 a0_8, .int .i64 a0_9, .int .i64 a0_10, .bool a0_11, .slice A0_12 l0_12.length c0_12, .slice A0_13 l0_13.length c0_13], .agg #[.int .i64 a1_0, .int .i64 a1_1, .int .i64 a1_2, .int .i64 a1_3, .int .i64 a1_4, .int .i64 a1_5, .int .i64 a1_6, .int .i64 a1_7, .int .i64 a1_8, .int .i64 a1_9, .int .i64 a1_10, .bool a1_11, .slice A1_12 l1_12.length c1_12, .slice A1_13 l1_13.length c1_13]] w fun e w' => e = .returned (.bool r) ∧ Below w.heap.size w w' := by
 have hu29 := Try.underlying29
 have HR0_12 := Aside0.mk hr0_12
 have HC0_12 := Aside0.mk hc0_12
 clear hr0_12 hc0_12
 have HR0_13 := Aside0.mk hr0_13
 have HC0_13 := Aside0.mk hc0_13
 clear hr0_13 hc0_13
 have HR1_12 := Aside0.mk hr1_12
 have HC1_12 := Aside0.mk hc1_12
 clear hr1_12 hc1_12
 have HR1_13 := Aside0.mk hr1_13
 have HC1_13 := Aside0.mk hc1_13
 clear hr1_13 hc1_13
 have HB := Aside0.mk (Below.refl w.heap.size w)
 have H : ((antipoderef14_Cmd.f k a0_0 a0_1 a0_2 a0_3 a0_4 a0_5 a0_6 a0_7 a0_8 a0_9 a0_10 a0_11 l0_12 l0_13).bind fun t429 => ((antipoderef14_Cmd.f k a1_0 a1_1 a1_2 a1_3 a1_4 a1_5 a1_6 a1_7 a1_8 a1_9 a1_10 a1_11 l1_12 l1_13).bind fun t432 => (some ((strOfNums t429).toList == (strOfNums t432).toList)))) = some r := h
 clear h
 replace H := Option.bind_eq_some_iff.mp H
 obtain ⟨t429, A30, H⟩ := H
 replace H : ((antipoderef14_Cmd.f k a1_0 a1_1 a1_2 a1_3 a1_4 a1_5 a1_6 a1_7 a1_8 a1_9 a1_10 a1_11 l1_12 l1_13).bind fun t432 => (some ((strOfNums t429).toList == (strOfNums t432).toList))) = some r := H
 have A3 := Aside0.mk A30
 clear A30
 replace H := Option.bind_eq_some_iff.mp H
 obtain ⟨t432, A40, H⟩ := H
 replace H : (some ((strOfNums t429).toList == (strOfNums t432).toList)) = some r := H
 have A4 := Aside0.mk A40
 clear A40
 obtain rfl := Option.some.inj H
 go_enter Try.func11, Try.ntmps11
 try go_wp2_with (first | ((with_reducible refine gate_dst (N := 2) rfl ?_); refine qX 2 #[.int .i64 a0_0, .int .i64 a0_1, .int .i64 a0_2, .int .i64 a0_3, .int .i64 a0_4, .int .i64 a0_5, .int .i64 a0_6, .int .i64 a0_7, .int .i64 a0_8, .int .i64 a0_9, .int .i64 a0_10, .bool a0_11, .slice A0_12 l0_12.length c0_12, .slice A0_13 l0_13.length c0_13] 29 ?_; intro gb427 hg w5 hbox hb; have BK427 := Aside0.mk (hbox); have GW427 := Aside0.mk ((qZ HB.out hg)); have GE427 := Aside0.mk ((qZ HB.out hg)); replace HB := Aside0.mk (below_step (qB HB.out) hb); clear hb hbox hg) | ((with_reducible refine gate_dst (N := 3) rfl ?_); refine qX 3 #[.int .i64 a1_0, .int .i64 a1_1, .int .i64 a1_2, .int .i64 a1_3, .int .i64 a1_4, .int .i64 a1_5, .int .i64 a1_6, .int .i64 a1_7, .int .i64 a1_8, .int .i64 a1_9, .int .i64 a1_10, .bool a1_11, .slice A1_12 l1_12.length c1_12, .slice A1_13 l1_13.length c1_13] 29 ?_; intro gb428 hg w6 hbox hb; have BK428 := Aside0.mk (hbox); have GW428 := Aside0.mk ((qZ HB.out hg)); have GE428 := Aside0.mk ((qZ HB.out hg)); replace HB := Aside0.mk (below_step (qB HB.out) hb); have NB427_428 := Aside0.mk ((qN BK427.out hg)); have NB428_427 := Aside0.mk ((qM BK427.out hg)); replace BK427 := Aside0.mk (blk_below (qK BK427.out) hb); clear hb hbox hg))
 replace BK427 := Aside0.mk (blk_drew BK427.out)
 replace BK428 := Aside0.mk (blk_drew BK428.out)
 replace HB := Aside0.mk (below_drew1 HB.out)
 refine start_ (n := 8) (S := fun w' => w'.cell? ⟨gb427, 0, none⟩ = some (.int .i64 a0_0) ∧ w'.cell? ⟨gb427, 1, none⟩ = some (.int .i64 a0_1) ∧ w'.cell? ⟨gb427, 2, none⟩ = some (.int .i64 a0_2) ∧ w'.cell? ⟨gb427, 3, none⟩ = some (.int .i64 a0_3) ∧ w'.cell? ⟨gb427, 4, none⟩ = some (.int .i64 a0_4) ∧ w'.cell? ⟨gb427, 5, none⟩ = some (.int .i64 a0_5) ∧ w'.cell? ⟨gb427, 6, none⟩ = some (.int .i64 a0_6) ∧ w'.cell? ⟨gb427, 7, none⟩ = some (.int .i64 a0_7) ∧ w'.cell? ⟨gb427, 8, none⟩ = some (.int .i64 a0_8) ∧ w'.cell? ⟨gb427, 9, none⟩ = some (.int .i64 a0_9) ∧ w'.cell? ⟨gb427, 10, none⟩ = some (.int .i64 a0_10) ∧ w'.cell? ⟨gb427, 11, none⟩ = some (.bool a0_11) ∧ w'.cell? ⟨gb427, 12, none⟩ = some (.slice A0_12 l0_12.length c0_12) ∧ w'.cell? ⟨gb427, 13, none⟩ = some (.slice A0_13 l0_13.length c0_13) ∧ w'.cell? ⟨gb428, 0, none⟩ = some (.int .i64 a1_0) ∧ w'.cell? ⟨gb428, 1, none⟩ = some (.int .i64 a1_1) ∧ w'.cell? ⟨gb428, 2, none⟩ = some (.int .i64 a1_2) ∧ w'.cell? ⟨gb428, 3, none⟩ = some (.int .i64 a1_3) ∧ w'.cell? ⟨gb428, 4, none⟩ = some (.int .i64 a1_4) ∧ w'.cell? ⟨gb428, 5, none⟩ = some (.int .i64 a1_5) ∧ w'.cell? ⟨gb428, 6, none⟩ = some (.int .i64 a1_6) ∧ w'.cell? ⟨gb428, 7, none⟩ = some (.int .i64 a1_7) ∧ w'.cell? ⟨gb428, 8, none⟩ = some (.int .i64 a1_8) ∧ w'.cell? ⟨gb428, 9, none⟩ = some (.int .i64 a1_9) ∧ w'.cell? ⟨gb428, 10, none⟩ = some (.int .i64 a1_10) ∧ w'.cell? ⟨gb428, 11, none⟩ = some (.bool a1_11) ∧ w'.cell? ⟨gb428, 12, none⟩ = some (.slice A1_12 l1_12.length c1_12) ∧ w'.cell? ⟨gb428, 13, none⟩ = some (.slice A1_13 l1_13.length c1_13)) (ds := []) #[false, false, false, false, false, false, false, false] (by kernel_rfl) rfl rfl ⟨(blk_cell BK427.out 0).trans rfl, (blk_cell BK427.out 1).trans rfl, (blk_cell BK427.out 2).trans rfl, (blk_cell BK427.out 3).trans rfl, (blk_cell BK427.out 4).trans rfl, (blk_cell BK427.out 5).trans rfl, (blk_cell BK427.out 6).trans rfl, (blk_cell BK427.out 7).trans rfl, (blk_cell BK427.out 8).trans rfl, (blk_cell BK427.out 9).trans rfl, (blk_cell BK427.out 10).trans rfl, (blk_cell BK427.out 11).trans rfl, (blk_cell BK427.out 12).trans rfl, (blk_cell BK427.out 13).trans rfl, (blk_cell BK428.out 0).trans rfl, (blk_cell BK428.out 1).trans rfl, (blk_cell BK428.out 2).trans rfl, (blk_cell BK428.out 3).trans rfl, (blk_cell BK428.out 4).trans rfl, (blk_cell BK428.out 5).trans rfl, (blk_cell BK428.out 6).trans rfl, (blk_cell BK428.out 7).trans rfl, (blk_cell BK428.out 8).trans rfl, (blk_cell BK428.out 9).trans rfl, (blk_cell BK428.out 10).trans rfl, (blk_cell BK428.out 11).trans rfl, (blk_cell BK428.out 12).trans rfl, (blk_cell BK428.out 13).trans rfl⟩ (fun hHeld => ?_); refine with_tabW antipoderef14_SameCmd.tab1 antipoderef14_SameCmd.bits1 (fun HT_ HW_ => ?_)
 generalize w6.drew = w7 at BK427 BK428 HB hHeld ⊢
 refine take_ (i := 0) (N := some 5) (v := ?_) (a' := ?_) #[true, false, false, false, false, false, false, false] rfl rfl (take_ofW HT_.out HW_.out (by kernel_rfl)) (fun _ _ _ h => h) (Or.inl ⟨by rfl, ?_⟩) hHeld ?_ ?_
 rotate_left
 ·rintro w' ⟨s0, s1, s2, s3, s4, s5, s6, s7, s8, s9, s10, s11, s12, s13, s14, s15, s16, s17, s18, s19, s20, s21, s22, s23, s24, s25, s26, s27⟩
  go_simp
  with_reducible rfl
 rotate_left
 ·simp only [Act.put, s1, s2, s3, i64_w, i32_w]
  rfl
 refine take_ (i := 3) (N := some 8) (v := ?_) (a' := ?_) #[true, false, false, true, false, false, false, false] rfl rfl (take_ofW HT_.out HW_.out (by kernel_rfl)) (fun _ _ _ h => h) (Or.inl ⟨by rfl, ?_⟩) hHeld ?_ ?_
 rotate_left
 ·rintro w' ⟨s0, s1, s2, s3, s4, s5, s6, s7, s8, s9, s10, s11, s12, s13, s14, s15, s16, s17, s18, s19, s20, s21, s22, s23, s24, s25, s26, s27⟩
  go_simp
  with_reducible rfl
 rotate_left
 ·simp only [Act.put, s1, s2, s3, i64_w, i32_w]
  rfl
 refine one_ (i := 1) (N := some 6) #[true, true, false, true, false, false, false, false] rfl rfl (one_of HT_.out (by kernel_rfl)) (by decide) (fun K hK => ?_)
 refine qG Try.func17 #[.agg #[.int .i64 a0_0, .int .i64 a0_1, .int .i64 a0_2, .int .i64 a0_3, .int .i64 a0_4, .int .i64 a0_5, .int .i64 a0_6, .int .i64 a0_7, .int .i64 a0_8, .int .i64 a0_9, .int .i64 a0_10, .bool a0_11, .slice A0_12 l0_12.length c0_12, .slice A0_13 l0_13.length c0_13]] ?_
 with_reducible refine (antipoderef14_Cmd.calls k a0_0 a0_1 a0_2 a0_3 a0_4 a0_5 a0_6 a0_7 a0_8 a0_9 a0_10 a0_11 _ _ l0_12 _ _ l0_13 t429 _ ?side1 ?side2 ?side3 ?side4 A3.out).mono ?_
 (case side1 => exact qC (Kd.C_below HR0_12.out HB.out))
 (case side2 => exact HC0_12.out)
 (case side3 => exact qC (Kd.C_below HR0_13.out HB.out))
 (case side4 => exact HC0_13.out)
 rintro e w8 ⟨v430, rfl, ho0, hb⟩
 refine ⟨_, rfl, ?_⟩
 have HO431 := Aside0.mk (Kd.R_lower ho0 (below_size (qB HB.out)))
 replace BK427 := Aside0.mk (blk_below (qK BK427.out) hb)
 replace BK428 := Aside0.mk (blk_below (qK BK428.out) hb)
 replace HB := Aside0.mk (below_step (qB HB.out) hb)
 (try clear hb)
 (try clear hb2)
 (try clear hk)
 (try clear hi)
 (try clear ho0)
 refine hK.out _ _ ⟨(blk_cell BK427.out 0).trans rfl, (blk_cell BK427.out 1).trans rfl, (blk_cell BK427.out 2).trans rfl, (blk_cell BK427.out 3).trans rfl, (blk_cell BK427.out 4).trans rfl, (blk_cell BK427.out 5).trans rfl, (blk_cell BK427.out 6).trans rfl, (blk_cell BK427.out 7).trans rfl, (blk_cell BK427.out 8).trans rfl, (blk_cell BK427.out 9).trans rfl, (blk_cell BK427.out 10).trans rfl, (blk_cell BK427.out 11).trans rfl, (blk_cell BK427.out 12).trans rfl, (blk_cell BK427.out 13).trans rfl, (blk_cell BK428.out 0).trans rfl, (blk_cell BK428.out 1).trans rfl, (blk_cell BK428.out 2).trans rfl, (blk_cell BK428.out 3).trans rfl, (blk_cell BK428.out 4).trans rfl, (blk_cell BK428.out 5).trans rfl, (blk_cell BK428.out 6).trans rfl, (blk_cell BK428.out 7).trans rfl, (blk_cell BK428.out 8).trans rfl, (blk_cell BK428.out 9).trans rfl, (blk_cell BK428.out 10).trans rfl, (blk_cell BK428.out 11).trans rfl, (blk_cell BK428.out 12).trans rfl, (blk_cell BK428.out 13).trans rfl⟩ (fun hHeld => ?_)
 clear hK K
 refine norm_ (a' := ?_) ?_ ?_
 rotate_left
 ·show Act.put _ (some 6) _ = _
  simp only [Act.put, s1, s2, s3, i64_w, i32_w]
  rfl
 refine join_ (σ := Value) 2 #[true, true, true, true, true, true, false, false] (fun s_ => [(7, .string (strOfNums t429)), (9, s_), (10, .string (strOfNums t432))]) (fun s_ w' => (w'.cell? ⟨gb427, 0, none⟩ = some (.int .i64 a0_0) ∧ w'.cell? ⟨gb427, 1, none⟩ = some (.int .i64 a0_1) ∧ w'.cell? ⟨gb427, 2, none⟩ = some (.int .i64 a0_2) ∧ w'.cell? ⟨gb427, 3, none⟩ = some (.int .i64 a0_3) ∧ w'.cell? ⟨gb427, 4, none⟩ = some (.int .i64 a0_4) ∧ w'.cell? ⟨gb427, 5, none⟩ = some (.int .i64 a0_5) ∧ w'.cell? ⟨gb427, 6, none⟩ = some (.int .i64 a0_6) ∧ w'.cell? ⟨gb427, 7, none⟩ = some (.int .i64 a0_7) ∧ w'.cell? ⟨gb427, 8, none⟩ = some (.int .i64 a0_8) ∧ w'.cell? ⟨gb427, 9, none⟩ = some (.int .i64 a0_9) ∧ w'.cell? ⟨gb427, 10, none⟩ = some (.int .i64 a0_10) ∧ w'.cell? ⟨gb427, 11, none⟩ = some (.bool a0_11) ∧ w'.cell? ⟨gb427, 12, none⟩ = some (.slice A0_12 l0_12.length c0_12) ∧ w'.cell? ⟨gb427, 13, none⟩ = some (.slice A0_13 l0_13.length c0_13) ∧ w'.cell? ⟨gb428, 0, none⟩ = some (.int .i64 a1_0) ∧ w'.cell? ⟨gb428, 1, none⟩ = some (.int .i64 a1_1) ∧ w'.cell? ⟨gb428, 2, none⟩ = some (.int .i64 a1_2) ∧ w'.cell? ⟨gb428, 3, none⟩ = some (.int .i64 a1_3) ∧ w'.cell? ⟨gb428, 4, none⟩ = some (.int .i64 a1_4) ∧ w'.cell? ⟨gb428, 5, none⟩ = some (.int .i64 a1_5) ∧ w'.cell? ⟨gb428, 6, none⟩ = some (.int .i64 a1_6) ∧ w'.cell? ⟨gb428, 7, none⟩ = some (.int .i64 a1_7) ∧ w'.cell? ⟨gb428, 8, none⟩ = some (.int .i64 a1_8) ∧ w'.cell? ⟨gb428, 9, none⟩ = some (.int .i64 a1_9) ∧ w'.cell? ⟨gb428, 10, none⟩ = some (.int .i64 a1_10) ∧ w'.cell? ⟨gb428, 11, none⟩ = some (.bool a1_11) ∧ w'.cell? ⟨gb428, 12, none⟩ = some (.slice A1_12 l1_12.length c1_12) ∧ w'.cell? ⟨gb428, 13, none⟩ = some (.slice A1_13 l1_13.length c1_13)) ∧ (Kd.R (Kd.int .u8) 5 w' w.heap.size (fun k_ => some k_ ≠ (s_ : Value).ownBlock) v430 t429) ∧ (Kd.R (Kd.int .u8) 5 w' w.heap.size (fun k_ => some k_ ≠ (v430 : Value).ownBlock) s_ t432) ∧ (w'.heap[gb427]? = some (.cells #[.int .i64 a0_0, .int .i64 a0_1, .int .i64 a0_2, .int .i64 a0_3, .int .i64 a0_4, .int .i64 a0_5, .int .i64 a0_6, .int .i64 a0_7, .int .i64 a0_8, .int .i64 a0_9, .int .i64 a0_10, .bool a0_11, .slice A0_12 l0_12.length c0_12, .slice A0_13 l0_13.length c0_13] 29 (0, 0))) ∧ (w'.heap[gb428]? = some (.cells #[.int .i64 a1_0, .int .i64 a1_1, .int .i64 a1_2, .int .i64 a1_3, .int .i64 a1_4, .int .i64 a1_5, .int .i64 a1_6, .int .i64 a1_7, .int .i64 a1_8, .int .i64 a1_9, .int .i64 a1_10, .bool a1_11, .slice A1_12 l1_12.length c1_12, .slice A1_13 l1_13.length c1_13] 29 (0, 0))) ∧ (Below w.heap.size w w')) ?_ ?_
 rotate_left
 ·intro hCont
  refine two_ (i := 2) (j := 4) (Ni := some 7) (Nj := some 9) #[true, true, true, true, false, false, false, false] #[true, true, false, true, true, false, false, false] rfl rfl rfl rfl (two_of HT_.out (by kernel_rfl)) (by decide) (by decide) (fun K hK => ?_) (fun K hK => ?_)
  ·skip
   have hcv9 := own_string (P := Try.prog) Try.underlying46 Try.underlying5 Try.underlying9 (Kd.own_of_R HO431.out)
   refine value_ (w1 := ?_) (v := ?_) (by rfl) rfl ?_ ?_
   rotate_left 2
   ·go_simp
    constructor
    ·rfl
    ·rfl
   clear hcv9
   refine hK.out _ _ ⟨(blk_cell BK427.out 0).trans rfl, (blk_cell BK427.out 1).trans rfl, (blk_cell BK427.out 2).trans rfl, (blk_cell BK427.out 3).trans rfl, (blk_cell BK427.out 4).trans rfl, (blk_cell BK427.out 5).trans rfl, (blk_cell BK427.out 6).trans rfl, (blk_cell BK427.out 7).trans rfl, (blk_cell BK427.out 8).trans rfl, (blk_cell BK427.out 9).trans rfl, (blk_cell BK427.out 10).trans rfl, (blk_cell BK427.out 11).trans rfl, (blk_cell BK427.out 12).trans rfl, (blk_cell BK427.out 13).trans rfl, (blk_cell BK428.out 0).trans rfl, (blk_cell BK428.out 1).trans rfl, (blk_cell BK428.out 2).trans rfl, (blk_cell BK428.out 3).trans rfl, (blk_cell BK428.out 4).trans rfl, (blk_cell BK428.out 5).trans rfl, (blk_cell BK428.out 6).trans rfl, (blk_cell BK428.out 7).trans rfl, (blk_cell BK428.out 8).trans rfl, (blk_cell BK428.out 9).trans rfl, (blk_cell BK428.out 10).trans rfl, (blk_cell BK428.out 11).trans rfl, (blk_cell BK428.out 12).trans rfl, (blk_cell BK428.out 13).trans rfl⟩ (fun hHeld => ?_)
   clear hK K
   refine norm_ (a' := ?_) ?_ ?_
   rotate_left
   ·show Act.put _ (some 7) _ = _
    simp only [Act.put, s1, s2, s3, i64_w, i32_w]
    rfl
   refine one_ (i := 4) (N := some 9) #[true, true, true, true, true, false, false, false] rfl rfl (one_of HT_.out (by kernel_rfl)) (by decide) (fun K hK => ?_)
   refine qG Try.func17 #[.agg #[.int .i64 a1_0, .int .i64 a1_1, .int .i64 a1_2, .int .i64 a1_3, .int .i64 a1_4, .int .i64 a1_5, .int .i64 a1_6, .int .i64 a1_7, .int .i64 a1_8, .int .i64 a1_9, .int .i64 a1_10, .bool a1_11, .slice A1_12 l1_12.length c1_12, .slice A1_13 l1_13.length c1_13]] ?_
   with_reducible refine (antipoderef14_Cmd.calls k a1_0 a1_1 a1_2 a1_3 a1_4 a1_5 a1_6 a1_7 a1_8 a1_9 a1_10 a1_11 _ _ l1_12 _ _ l1_13 t432 _ ?side1 ?side2 ?side3 ?side4 A4.out).mono ?_
   (case side1 => exact qC (Kd.C_below HR1_12.out HB.out))
   (case side2 => exact HC1_12.out)
   (case side3 => exact qC (Kd.C_below HR1_13.out HB.out))
   (case side4 => exact HC1_13.out)
   rintro e w10 ⟨v433, rfl, ho0, hb⟩
   refine ⟨_, rfl, ?_⟩
   have HO434 := Aside0.mk (Kd.R_lower (Kd.R_new' ho0 (Kd.R_lt (qR HO431.out))) (below_size (qB HB.out)))
   replace HO431 := Aside0.mk (Kd.R_elder' (qR HO431.out) (Kd.R_base ho0) hb)
   replace BK427 := Aside0.mk (blk_below (qK BK427.out) hb)
   replace BK428 := Aside0.mk (blk_below (qK BK428.out) hb)
   replace HB := Aside0.mk (below_step (qB HB.out) hb)
   (try clear hb)
   (try clear hb2)
   (try clear hk)
   (try clear hi)
   (try clear ho0)
   refine hK.out _ _ ⟨(blk_cell BK427.out 0).trans rfl, (blk_cell BK427.out 1).trans rfl, (blk_cell BK427.out 2).trans rfl, (blk_cell BK427.out 3).trans rfl, (blk_cell BK427.out 4).trans rfl, (blk_cell BK427.out 5).trans rfl, (blk_cell BK427.out 6).trans rfl, (blk_cell BK427.out 7).trans rfl, (blk_cell BK427.out 8).trans rfl, (blk_cell BK427.out 9).trans rfl, (blk_cell BK427.out 10).trans rfl, (blk_cell BK427.out 11).trans rfl, (blk_cell BK427.out 12).trans rfl, (blk_cell BK427.out 13).trans rfl, (blk_cell BK428.out 0).trans rfl, (blk_cell BK428.out 1).trans rfl, (blk_cell BK428.out 2).trans rfl, (blk_cell BK428.out 3).trans rfl, (blk_cell BK428.out 4).trans rfl, (blk_cell BK428.out 5).trans rfl, (blk_cell BK428.out 6).trans rfl, (blk_cell BK428.out 7).trans rfl, (blk_cell BK428.out 8).trans rfl, (blk_cell BK428.out 9).trans rfl, (blk_cell BK428.out 10).trans rfl, (blk_cell BK428.out 11).trans rfl, (blk_cell BK428.out 12).trans rfl, (blk_cell BK428.out 13).trans rfl⟩ (fun hHeld => ?_)
   clear hK K
   refine norm_ (a' := ?_) ?_ ?_
   rotate_left
   ·show Act.put _ (some 9) _ = _
    simp only [Act.put, s1, s2, s3, i64_w, i32_w]
    rfl
   refine one_ (i := 5) (N := some 10) #[true, true, true, true, true, true, false, false] rfl rfl (one_of HT_.out (by kernel_rfl)) (by decide) (fun K hK => ?_)
   have hcv11 := own_string (P := Try.prog) Try.underlying46 Try.underlying5 Try.underlying9 (Kd.own_of_R HO434.out)
   refine value_ (w1 := ?_) (v := ?_) (by rfl) rfl ?_ ?_
   rotate_left 2
   ·go_simp
    constructor
    ·rfl
    ·rfl
   clear hcv11
   refine hK.out _ _ ⟨(blk_cell BK427.out 0).trans rfl, (blk_cell BK427.out 1).trans rfl, (blk_cell BK427.out 2).trans rfl, (blk_cell BK427.out 3).trans rfl, (blk_cell BK427.out 4).trans rfl, (blk_cell BK427.out 5).trans rfl, (blk_cell BK427.out 6).trans rfl, (blk_cell BK427.out 7).trans rfl, (blk_cell BK427.out 8).trans rfl, (blk_cell BK427.out 9).trans rfl, (blk_cell BK427.out 10).trans rfl, (blk_cell BK427.out 11).trans rfl, (blk_cell BK427.out 12).trans rfl, (blk_cell BK427.out 13).trans rfl, (blk_cell BK428.out 0).trans rfl, (blk_cell BK428.out 1).trans rfl, (blk_cell BK428.out 2).trans rfl, (blk_cell BK428.out 3).trans rfl, (blk_cell BK428.out 4).trans rfl, (blk_cell BK428.out 5).trans rfl, (blk_cell BK428.out 6).trans rfl, (blk_cell BK428.out 7).trans rfl, (blk_cell BK428.out 8).trans rfl, (blk_cell BK428.out 9).trans rfl, (blk_cell BK428.out 10).trans rfl, (blk_cell BK428.out 11).trans rfl, (blk_cell BK428.out 12).trans rfl, (blk_cell BK428.out 13).trans rfl⟩ (fun hHeld => ?_)
   clear hK K
   refine norm_ (a' := ?_) ?_ ?_
   rotate_left
   ·show Act.put _ (some 10) _ = _
    simp only [Act.put, s1, s2, s3, i64_w, i32_w]
    rfl
   exact norm_ (by simp only [putAll, Act.put, s1, s2, s3]) (hCont (v433) _ ⟨hHeld, (by (with_reducible repeat (first | apply Kd.R_alloc | apply Kd.R_drewN | apply Kd.R_drew)); exact Kd.R_mono HO431.out (fun _ hk => hk.2)), (by (with_reducible repeat (first | apply Kd.R_alloc | apply Kd.R_drewN | apply Kd.R_drew)); exact Kd.R_mono HO434.out (fun _ hk => hk.2)), (qK BK427.out), (qK BK428.out), (qB HB.out)⟩)
  ·skip
   refine qG Try.func17 #[.agg #[.int .i64 a1_0, .int .i64 a1_1, .int .i64 a1_2, .int .i64 a1_3, .int .i64 a1_4, .int .i64 a1_5, .int .i64 a1_6, .int .i64 a1_7, .int .i64 a1_8, .int .i64 a1_9, .int .i64 a1_10, .bool a1_11, .slice A1_12 l1_12.length c1_12, .slice A1_13 l1_13.length c1_13]] ?_
   with_reducible refine (antipoderef14_Cmd.calls k a1_0 a1_1 a1_2 a1_3 a1_4 a1_5 a1_6 a1_7 a1_8 a1_9 a1_10 a1_11 _ _ l1_12 _ _ l1_13 t432 _ ?side1 ?side2 ?side3 ?side4 A4.out).mono ?_
   (case side1 => exact qC (Kd.C_below HR1_12.out HB.out))
   (case side2 => exact HC1_12.out)
   (case side3 => exact qC (Kd.C_below HR1_13.out HB.out))
   (case side4 => exact HC1_13.out)
   rintro e w9 ⟨v433, rfl, ho0, hb⟩
   refine ⟨_, rfl, ?_⟩
   have HO434 := Aside0.mk (Kd.R_lower (Kd.R_new' ho0 (Kd.R_lt (qR HO431.out))) (below_size (qB HB.out)))
   replace HO431 := Aside0.mk (Kd.R_elder' (qR HO431.out) (Kd.R_base ho0) hb)
   replace BK427 := Aside0.mk (blk_below (qK BK427.out) hb)
   replace BK428 := Aside0.mk (blk_below (qK BK428.out) hb)
   replace HB := Aside0.mk (below_step (qB HB.out) hb)
   (try clear hb)
   (try clear hb2)
   (try clear hk)
   (try clear hi)
   (try clear ho0)
   refine hK.out _ _ ⟨(blk_cell BK427.out 0).trans rfl, (blk_cell BK427.out 1).trans rfl, (blk_cell BK427.out 2).trans rfl, (blk_cell BK427.out 3).trans rfl, (blk_cell BK427.out 4).trans rfl, (blk_cell BK427.out 5).trans rfl, (blk_cell BK427.out 6).trans rfl, (blk_cell BK427.out 7).trans rfl, (blk_cell BK427.out 8).trans rfl, (blk_cell BK427.out 9).trans rfl, (blk_cell BK427.out 10).trans rfl, (blk_cell BK427.out 11).trans rfl, (blk_cell BK427.out 12).trans rfl, (blk_cell BK427.out 13).trans rfl, (blk_cell BK428.out 0).trans rfl, (blk_cell BK428.out 1).trans rfl, (blk_cell BK428.out 2).trans rfl, (blk_cell BK428.out 3).trans rfl, (blk_cell BK428.out 4).trans rfl, (blk_cell BK428.out 5).trans rfl, (blk_cell BK428.out 6).trans rfl, (blk_cell BK428.out 7).trans rfl, (blk_cell BK428.out 8).trans rfl, (blk_cell BK428.out 9).trans rfl, (blk_cell BK428.out 10).trans rfl, (blk_cell BK428.out 11).trans rfl, (blk_cell BK428.out 12).trans rfl, (blk_cell BK428.out 13).trans rfl⟩ (fun hHeld => ?_)
   clear hK K
   refine norm_ (a' := ?_) ?_ ?_
   rotate_left
   ·show Act.put _ (some 9) _ = _
    simp only [Act.put, s1, s2, s3, i64_w, i32_w]
    rfl
   refine two_ (i := 2) (j := 5) (Ni := some 7) (Nj := some 10) #[true, true, true, true, true, false, false, false] #[true, true, false, true, true, true, false, false] rfl rfl rfl rfl (two_of HT_.out (by kernel_rfl)) (by decide) (by decide) (fun K hK => ?_) (fun K hK => ?_)
   ·skip
    have hcv10 := own_string (P := Try.prog) Try.underlying46 Try.underlying5 Try.underlying9 (Kd.own_of_R HO431.out)
    refine value_ (w1 := ?_) (v := ?_) (by rfl) rfl ?_ ?_
    rotate_left 2
    ·go_simp
     constructor
     ·rfl
     ·rfl
    clear hcv10
    refine hK.out _ _ ⟨(blk_cell BK427.out 0).trans rfl, (blk_cell BK427.out 1).trans rfl, (blk_cell BK427.out 2).trans rfl, (blk_cell BK427.out 3).trans rfl, (blk_cell BK427.out 4).trans rfl, (blk_cell BK427.out 5).trans rfl, (blk_cell BK427.out 6).trans rfl, (blk_cell BK427.out 7).trans rfl, (blk_cell BK427.out 8).trans rfl, (blk_cell BK427.out 9).trans rfl, (blk_cell BK427.out 10).trans rfl, (blk_cell BK427.out 11).trans rfl, (blk_cell BK427.out 12).trans rfl, (blk_cell BK427.out 13).trans rfl, (blk_cell BK428.out 0).trans rfl, (blk_cell BK428.out 1).trans rfl, (blk_cell BK428.out 2).trans rfl, (blk_cell BK428.out 3).trans rfl, (blk_cell BK428.out 4).trans rfl, (blk_cell BK428.out 5).trans rfl, (blk_cell BK428.out 6).trans rfl, (blk_cell BK428.out 7).trans rfl, (blk_cell BK428.out 8).trans rfl, (blk_cell BK428.out 9).trans rfl, (blk_cell BK428.out 10).trans rfl, (blk_cell BK428.out 11).trans rfl, (blk_cell BK428.out 12).trans rfl, (blk_cell BK428.out 13).trans rfl⟩ (fun hHeld => ?_)
    clear hK K
    refine norm_ (a' := ?_) ?_ ?_
    rotate_left
    ·show Act.put _ (some 7) _ = _
     simp only [Act.put, s1, s2, s3, i64_w, i32_w]
     rfl
    refine one_ (i := 5) (N := some 10) #[true, true, true, true, true, true, false, false] rfl rfl (one_of HT_.out (by kernel_rfl)) (by decide) (fun K hK => ?_)
    have hcv11 := own_string (P := Try.prog) Try.underlying46 Try.underlying5 Try.underlying9 (Kd.own_of_R HO434.out)
    refine value_ (w1 := ?_) (v := ?_) (by rfl) rfl ?_ ?_
    rotate_left 2
    ·go_simp
     constructor
     ·rfl
     ·rfl
    clear hcv11
    refine hK.out _ _ ⟨(blk_cell BK427.out 0).trans rfl, (blk_cell BK427.out 1).trans rfl, (blk_cell BK427.out 2).trans rfl, (blk_cell BK427.out 3).trans rfl, (blk_cell BK427.out 4).trans rfl, (blk_cell BK427.out 5).trans rfl, (blk_cell BK427.out 6).trans rfl, (blk_cell BK427.out 7).trans rfl, (blk_cell BK427.out 8).trans rfl, (blk_cell BK427.out 9).trans rfl, (blk_cell BK427.out 10).trans rfl, (blk_cell BK427.out 11).trans rfl, (blk_cell BK427.out 12).trans rfl, (blk_cell BK427.out 13).trans rfl, (blk_cell BK428.out 0).trans rfl, (blk_cell BK428.out 1).trans rfl, (blk_cell BK428.out 2).trans rfl, (blk_cell BK428.out 3).trans rfl, (blk_cell BK428.out 4).trans rfl, (blk_cell BK428.out 5).trans rfl, (blk_cell BK428.out 6).trans rfl, (blk_cell BK428.out 7).trans rfl, (blk_cell BK428.out 8).trans rfl, (blk_cell BK428.out 9).trans rfl, (blk_cell BK428.out 10).trans rfl, (blk_cell BK428.out 11).trans rfl, (blk_cell BK428.out 12).trans rfl, (blk_cell BK428.out 13).trans rfl⟩ (fun hHeld => ?_)
    clear hK K
    refine norm_ (a' := ?_) ?_ ?_
    rotate_left
    ·show Act.put _ (some 10) _ = _
     simp only [Act.put, s1, s2, s3, i64_w, i32_w]
     rfl
    exact norm_ (by simp only [putAll, Act.put, s1, s2, s3]) (hCont (v433) _ ⟨hHeld, (by (with_reducible repeat (first | apply Kd.R_alloc | apply Kd.R_drewN | apply Kd.R_drew)); exact Kd.R_mono HO431.out (fun _ hk => hk.2)), (by (with_reducible repeat (first | apply Kd.R_alloc | apply Kd.R_drewN | apply Kd.R_drew)); exact Kd.R_mono HO434.out (fun _ hk => hk.2)), (qK BK427.out), (qK BK428.out), (qB HB.out)⟩)
   ·skip
    have hcv10 := own_string (P := Try.prog) Try.underlying46 Try.underlying5 Try.underlying9 (Kd.own_of_R HO434.out)
    refine value_ (w1 := ?_) (v := ?_) (by rfl) rfl ?_ ?_
    rotate_left 2
    ·go_simp
     constructor
     ·rfl
     ·rfl
    clear hcv10
    refine hK.out _ _ ⟨(blk_cell BK427.out 0).trans rfl, (blk_cell BK427.out 1).trans rfl, (blk_cell BK427.out 2).trans rfl, (blk_cell BK427.out 3).trans rfl, (blk_cell BK427.out 4).trans rfl, (blk_cell BK427.out 5).trans rfl, (blk_cell BK427.out 6).trans rfl, (blk_cell BK427.out 7).trans rfl, (blk_cell BK427.out 8).trans rfl, (blk_cell BK427.out 9).trans rfl, (blk_cell BK427.out 10).trans rfl, (blk_cell BK427.out 11).trans rfl, (blk_cell BK427.out 12).trans rfl, (blk_cell BK427.out 13).trans rfl, (blk_cell BK428.out 0).trans rfl, (blk_cell BK428.out 1).trans rfl, (blk_cell BK428.out 2).trans rfl, (blk_cell BK428.out 3).trans rfl, (blk_cell BK428.out 4).trans rfl, (blk_cell BK428.out 5).trans rfl, (blk_cell BK428.out 6).trans rfl, (blk_cell BK428.out 7).trans rfl, (blk_cell BK428.out 8).trans rfl, (blk_cell BK428.out 9).trans rfl, (blk_cell BK428.out 10).trans rfl, (blk_cell BK428.out 11).trans rfl, (blk_cell BK428.out 12).trans rfl, (blk_cell BK428.out 13).trans rfl⟩ (fun hHeld => ?_)
    clear hK K
    refine norm_ (a' := ?_) ?_ ?_
    rotate_left
    ·show Act.put _ (some 10) _ = _
     simp only [Act.put, s1, s2, s3, i64_w, i32_w]
     rfl
    refine one_ (i := 2) (N := some 7) #[true, true, true, true, true, true, false, false] rfl rfl (one_of HT_.out (by kernel_rfl)) (by decide) (fun K hK => ?_)
    have hcv11 := own_string (P := Try.prog) Try.underlying46 Try.underlying5 Try.underlying9 (Kd.own_of_R HO431.out)
    refine value_ (w1 := ?_) (v := ?_) (by rfl) rfl ?_ ?_
    rotate_left 2
    ·go_simp
     constructor
     ·rfl
     ·rfl
    clear hcv11
    refine hK.out _ _ ⟨(blk_cell BK427.out 0).trans rfl, (blk_cell BK427.out 1).trans rfl, (blk_cell BK427.out 2).trans rfl, (blk_cell BK427.out 3).trans rfl, (blk_cell BK427.out 4).trans rfl, (blk_cell BK427.out 5).trans rfl, (blk_cell BK427.out 6).trans rfl, (blk_cell BK427.out 7).trans rfl, (blk_cell BK427.out 8).trans rfl, (blk_cell BK427.out 9).trans rfl, (blk_cell BK427.out 10).trans rfl, (blk_cell BK427.out 11).trans rfl, (blk_cell BK427.out 12).trans rfl, (blk_cell BK427.out 13).trans rfl, (blk_cell BK428.out 0).trans rfl, (blk_cell BK428.out 1).trans rfl, (blk_cell BK428.out 2).trans rfl, (blk_cell BK428.out 3).trans rfl, (blk_cell BK428.out 4).trans rfl, (blk_cell BK428.out 5).trans rfl, (blk_cell BK428.out 6).trans rfl, (blk_cell BK428.out 7).trans rfl, (blk_cell BK428.out 8).trans rfl, (blk_cell BK428.out 9).trans rfl, (blk_cell BK428.out 10).trans rfl, (blk_cell BK428.out 11).trans rfl, (blk_cell BK428.out 12).trans rfl, (blk_cell BK428.out 13).trans rfl⟩ (fun hHeld => ?_)
    clear hK K
    refine norm_ (a' := ?_) ?_ ?_
    rotate_left
    ·show Act.put _ (some 7) _ = _
     simp only [Act.put, s1, s2, s3, i64_w, i32_w]
     rfl
    exact norm_ (by simp only [putAll, Act.put, s1, s2, s3]) (hCont (v433) _ ⟨hHeld, (by (with_reducible repeat (first | apply Kd.R_alloc | apply Kd.R_drewN | apply Kd.R_drew)); exact Kd.R_mono HO431.out (fun _ hk => hk.2)), (by (with_reducible repeat (first | apply Kd.R_alloc | apply Kd.R_drewN | apply Kd.R_drew)); exact Kd.R_mono HO434.out (fun _ hk => hk.2)), (qK BK427.out), (qK BK428.out), (qB HB.out)⟩)
 rintro v433 w12 ⟨hS_, h0_, h1_, h2_, h3_, h4_⟩
 have HO431 : Aside0 (Kd.R (Kd.int .u8) 5 w12 w.heap.size (fun k_ => some k_ ≠ (v433 : Value).ownBlock) v430 t429) := ⟨h0_⟩
 have HO434 : Aside0 (Kd.R (Kd.int .u8) 5 w12 w.heap.size (fun k_ => some k_ ≠ (v430 : Value).ownBlock) v433 t432) := ⟨h1_⟩
 replace BK427 : Aside0 (w12.heap[gb427]? = some (.cells #[.int .i64 a0_0, .int .i64 a0_1, .int .i64 a0_2, .int .i64 a0_3, .int .i64 a0_4, .int .i64 a0_5, .int .i64 a0_6, .int .i64 a0_7, .int .i64 a0_8, .int .i64 a0_9, .int .i64 a0_10, .bool a0_11, .slice A0_12 l0_12.length c0_12, .slice A0_13 l0_13.length c0_13] 29 (0, 0))) := ⟨h2_⟩
 replace BK428 : Aside0 (w12.heap[gb428]? = some (.cells #[.int .i64 a1_0, .int .i64 a1_1, .int .i64 a1_2, .int .i64 a1_3, .int .i64 a1_4, .int .i64 a1_5, .int .i64 a1_6, .int .i64 a1_7, .int .i64 a1_8, .int .i64 a1_9, .int .i64 a1_10, .bool a1_11, .slice A1_12 l1_12.length c1_12, .slice A1_13 l1_13.length c1_13] 29 (0, 0))) := ⟨h3_⟩
 replace HB : Aside0 (Below w.heap.size w w12) := ⟨h4_⟩
 clear h0_ h1_ h2_ h3_ h4_
 have hHeld : w12.cell? ⟨gb427, 0, none⟩ = some (.int .i64 a0_0) ∧ w12.cell? ⟨gb427, 1, none⟩ = some (.int .i64 a0_1) ∧ w12.cell? ⟨gb427, 2, none⟩ = some (.int .i64 a0_2) ∧ w12.cell? ⟨gb427, 3, none⟩ = some (.int .i64 a0_3) ∧ w12.cell? ⟨gb427, 4, none⟩ = some (.int .i64 a0_4) ∧ w12.cell? ⟨gb427, 5, none⟩ = some (.int .i64 a0_5) ∧ w12.cell? ⟨gb427, 6, none⟩ = some (.int .i64 a0_6) ∧ w12.cell? ⟨gb427, 7, none⟩ = some (.int .i64 a0_7) ∧ w12.cell? ⟨gb427, 8, none⟩ = some (.int .i64 a0_8) ∧ w12.cell? ⟨gb427, 9, none⟩ = some (.int .i64 a0_9) ∧ w12.cell? ⟨gb427, 10, none⟩ = some (.int .i64 a0_10) ∧ w12.cell? ⟨gb427, 11, none⟩ = some (.bool a0_11) ∧ w12.cell? ⟨gb427, 12, none⟩ = some (.slice A0_12 l0_12.length c0_12) ∧ w12.cell? ⟨gb427, 13, none⟩ = some (.slice A0_13 l0_13.length c0_13) ∧ w12.cell? ⟨gb428, 0, none⟩ = some (.int .i64 a1_0) ∧ w12.cell? ⟨gb428, 1, none⟩ = some (.int .i64 a1_1) ∧ w12.cell? ⟨gb428, 2, none⟩ = some (.int .i64 a1_2) ∧ w12.cell? ⟨gb428, 3, none⟩ = some (.int .i64 a1_3) ∧ w12.cell? ⟨gb428, 4, none⟩ = some (.int .i64 a1_4) ∧ w12.cell? ⟨gb428, 5, none⟩ = some (.int .i64 a1_5) ∧ w12.cell? ⟨gb428, 6, none⟩ = some (.int .i64 a1_6) ∧ w12.cell? ⟨gb428, 7, none⟩ = some (.int .i64 a1_7) ∧ w12.cell? ⟨gb428, 8, none⟩ = some (.int .i64 a1_8) ∧ w12.cell? ⟨gb428, 9, none⟩ = some (.int .i64 a1_9) ∧ w12.cell? ⟨gb428, 10, none⟩ = some (.int .i64 a1_10) ∧ w12.cell? ⟨gb428, 11, none⟩ = some (.bool a1_11) ∧ w12.cell? ⟨gb428, 12, none⟩ = some (.slice A1_12 l1_12.length c1_12) ∧ w12.cell? ⟨gb428, 13, none⟩ = some (.slice A1_13 l1_13.length c1_13) := hS_
 refine norm_ (a' := ?_) ?_ ?_
 rotate_left
 ·simp only [putAll, Act.put, s1, s2, s3]
  rfl
 refine pure_ (i := 6) (N := some 11) (v := ?_) (a' := ?_) #[true, true, true, true, true, true, true, false] rfl rfl (any_of HT_.out (by kernel_rfl)) (fun _ _ _ h => h) (Or.inl ⟨by rfl, ?_⟩) ?_ ?_
 rotate_left
 ·intro w'
  go_simp
  with_reducible rfl
 rotate_left
 ·simp only [Act.put, s1, s2, s3, i64_w, i32_w]
  rfl
 refine pure_ (i := 7) (N := some 4) (v := ?_) (a' := ?_) #[true, true, true, true, true, true, true, true] rfl rfl (any_of HT_.out (by kernel_rfl)) (fun _ _ _ h => h) (Or.inl ⟨by rfl, ?_⟩) ?_ ?_
 rotate_left
 ·intro w'
  go_simp
  with_reducible rfl
 rotate_left
 ·simp only [Act.put, s1, s2, s3, i64_w, i32_w]
  rfl
 refine done_ (done_of HT_.out (by kernel_rfl)) ?_
 try go_wp2
 go_ret
 exact ⟨by first | rfl | (simp [errW_none, errW_some] <;> rfl) | (simp [*, errW_none, errW_some] <;> rfl), qB HB.out⟩
def antipoderef14_sameOutcomes.l0 : Nat → List (S83) → List (S83) → Int → Option (Bool)
 | 0, _, _, _ => none
 | k + 1, x0, x1, x5 => if x5 < (x0.length : Int) then (if 0 ≤ x5 then (if x5 < (x1.length : Int) then (if ((!(((rd_T83 x0 x5).f0.f0) == ((rd_T83 x1 x5).f0.f0)) || (!(((rd_T83 x0 x5).f0.f1) == ((rd_T83 x1 x5).f0.f1)) || (!(((rd_T83 x0 x5).f0.f2) == ((rd_T83 x1 x5).f0.f2)) || (!(((rd_T83 x0 x5).f0.f3) == ((rd_T83 x1 x5).f0.f3)))))) || ((!(((rd_T83 x0 x5).f1.f0) == ((rd_T83 x1 x5).f1.f0)) || (!(((rd_T83 x0 x5).f1.f1) == ((rd_T83 x1 x5).f1.f1)))) || (!(((rd_T83 x0 x5).f2) == ((rd_T83 x1 x5).f2))))) = true then (some false) else (antipoderef14_sameOutcomes.l0 k x0 x1 (wrap64 (x5 + 1)))) else (none)) else (none)) else (some true)
def antipoderef14_sameOutcomes.f (k : Nat) (l0 : List (S83)) (l1 : List (S83)) : Option (Bool) := if (l0.length : Int) = (l1.length : Int) then (antipoderef14_sameOutcomes.l0 k l0 l1 0) else (some false)
set_option maxHeartbeats 8000000 in
set_option maxRecDepth 100000 in
theorem antipoderef14_sameOutcomes.calls (k : Nat) (A0 : Option Addr) (c0 : Nat) (l0 : List (S83)) (A1 : Option Addr) (c1 : Nat) (l1 : List (S83)) (r : Bool) (w : World) (hr0 : Kd.C k83 w A0 l0.length l0) (hc0 : l0.length ≤ c0) (hr1 : Kd.C k83 w A1 l1.length l1) (hc1 : l1.length ≤ c1) (h : antipoderef14_sameOutcomes.f k l0 l1 = some r) :
  Calls Try.prog 39 #[.slice A0 l0.length c0, .slice A1 l1.length c1] w fun e w' => e = .returned (.bool r) ∧ Drawn0 w w' := by
 have hu83 := Try.underlying83
 have HR0 := Aside0.mk hr0
 have HC0 := Aside0.mk hc0
 clear hr0 hc0
 have HR1 := Aside0.mk hr1
 have HC1 := Aside0.mk hc1
 clear hr1 hc1
 have H : (if (l0.length : Int) = (l1.length : Int) then (antipoderef14_sameOutcomes.l0 k l0 l1 0) else (some false)) = some r := h
 clear h
 by_cases c3 : (l0.length : Int) = (l1.length : Int)
 ·rw [if_pos c3] at H
  have c3b0 : ((l0.length : Int) == (l1.length : Int)) = true := beq_iff_eq.mpr c3
  have c3b1 : ((l0.length : Int) != (l1.length : Int)) = false := bne_eq_false_iff_eq.mpr c3
  have c3b2 : (l0.length == l1.length) = true := by first | simpa using c3 | (simp at c3 ⊢; omega)
  clear c3
  have H' := Aside0.mk H
  clear H
  go_enter Try.func39, Try.ntmps39
  go_wp2
  repeat (go_quiet (fail); try go_wp2)
  go_loopg [5] k (fun kq v5 w' => ∃ (x5_1 : Int), v5 = .int .i64 x5_1 ∧ Aside0 (antipoderef14_sameOutcomes.l0 kq l0 l1 x5_1 = some r) ∧ Aside0 (kq ≤ k) ∧ Drawn0 w w')
  case atStart => exact ⟨(0), (by first | rfl | (simp; done) | (simp [*]; done)), H', ⟨Nat.le_refl _⟩, by repeat (first | exact Drawn0.refl _ | apply Drawn0.step)⟩
  case round =>
   clear H'
   try clear c1
   try clear p2
   try clear c3
   try clear c3b0
   try clear c3b1
   try clear c3b2
   obtain ⟨x5_1, rfl, HA, HK1, ⟨m1, rfl⟩⟩ := hrel
   cases gk with
   | zero => exact absurd HA.out (by simp [antipoderef14_sameOutcomes.l0])
   | succ k1 =>
    have H := HA.out
    clear HA
    simp only [antipoderef14_sameOutcomes.l0] at H
    by_cases c4 : x5_1 < (l0.length : Int)
    ·rw [if_pos c4] at H
     have c4b0 : decide (x5_1 < (l0.length : Int)) = true := decide_eq_true c4
     clear c4
     by_cases c5 : 0 ≤ x5_1
     ·rw [if_pos c5] at H
      have c5b0 : decide (0 ≤ x5_1) = true := decide_eq_true c5
      clear c5
      by_cases c6 : x5_1 < (l1.length : Int)
      ·rw [if_pos c6] at H
       have c6b0 : decide (x5_1 < (l1.length : Int)) = true := decide_eq_true c6
       clear c6
       by_cases c7 : ((!(((rd_T83 l0 x5_1).f0.f0) == ((rd_T83 l1 x5_1).f0.f0)) || (!(((rd_T83 l0 x5_1).f0.f1) == ((rd_T83 l1 x5_1).f0.f1)) || (!(((rd_T83 l0 x5_1).f0.f2) == ((rd_T83 l1 x5_1).f0.f2)) || (!(((rd_T83 l0 x5_1).f0.f3) == ((rd_T83 l1 x5_1).f0.f3)))))) || ((!(((rd_T83 l0 x5_1).f1.f0) == ((rd_T83 l1 x5_1).f1.f0)) || (!(((rd_T83 l0 x5_1).f1.f1) == ((rd_T83 l1 x5_1).f1.f1)))) || (!(((rd_T83 l0 x5_1).f2) == ((rd_T83 l1 x5_1).f2))))) = true
       ·rw [if_pos c7] at H
        have c7b0 : ((!(((rd_T83 l0 x5_1).f0.f0) == ((rd_T83 l1 x5_1).f0.f0)) || (!(((rd_T83 l0 x5_1).f0.f1) == ((rd_T83 l1 x5_1).f0.f1)) || (!(((rd_T83 l0 x5_1).f0.f2) == ((rd_T83 l1 x5_1).f0.f2)) || (!(((rd_T83 l0 x5_1).f0.f3) == ((rd_T83 l1 x5_1).f0.f3)))))) || ((!(((rd_T83 l0 x5_1).f1.f0) == ((rd_T83 l1 x5_1).f1.f0)) || (!(((rd_T83 l0 x5_1).f1.f1) == ((rd_T83 l1 x5_1).f1.f1)))) || (!(((rd_T83 l0 x5_1).f2) == ((rd_T83 l1 x5_1).f2))))) = true := c7
        clear c7
        obtain rfl := Option.some.inj H
        have p435 : 0 ≤ (x5_1 : Int) := of_decide_eq_true (by first | (with_reducible assumption) | assumption)
        have q435 : x5_1 < (l0.length : Int) := of_decide_eq_true (by first | (with_reducible assumption) | assumption)
        obtain ⟨ad435, e435, hx435_0, hx435_1, hx435_2, hx435_3, hx435_4, hx435_5, hx435_6⟩ := at_T83 HR0.out x5_1 p435 q435
        cases e435
        replace p435 := eq_true p435
        replace q435 := eq_true q435
        have p436 : 0 ≤ (x5_1 : Int) := of_decide_eq_true (by first | (with_reducible assumption) | assumption)
        have q436 : x5_1 < (l1.length : Int) := of_decide_eq_true (by first | (with_reducible assumption) | assumption)
        obtain ⟨ad436, e436, hx436_0, hx436_1, hx436_2, hx436_3, hx436_4, hx436_5, hx436_6⟩ := at_T83 HR1.out x5_1 p436 q436
        cases e436
        replace p436 := eq_true p436
        replace q436 := eq_true q436
        go_wp2
        repeat (go_quiet (fail); try go_wp2)
        go_ret
        exact ⟨by first | rfl | (simp; done) | (simp [*]; done), by repeat (first | exact Drawn0.refl _ | apply Drawn0.step)⟩
       ·rw [if_neg c7] at H
        have c7b0 : ((!(((rd_T83 l0 x5_1).f0.f0) == ((rd_T83 l1 x5_1).f0.f0)) || (!(((rd_T83 l0 x5_1).f0.f1) == ((rd_T83 l1 x5_1).f0.f1)) || (!(((rd_T83 l0 x5_1).f0.f2) == ((rd_T83 l1 x5_1).f0.f2)) || (!(((rd_T83 l0 x5_1).f0.f3) == ((rd_T83 l1 x5_1).f0.f3)))))) || ((!(((rd_T83 l0 x5_1).f1.f0) == ((rd_T83 l1 x5_1).f1.f0)) || (!(((rd_T83 l0 x5_1).f1.f1) == ((rd_T83 l1 x5_1).f1.f1)))) || (!(((rd_T83 l0 x5_1).f2) == ((rd_T83 l1 x5_1).f2))))) = false := by simpa using c7
        clear c7
        have H' := Aside0.mk H
        clear H
        have p435 : 0 ≤ (x5_1 : Int) := of_decide_eq_true (by first | (with_reducible assumption) | assumption)
        have q435 : x5_1 < (l0.length : Int) := of_decide_eq_true (by first | (with_reducible assumption) | assumption)
        obtain ⟨ad435, e435, hx435_0, hx435_1, hx435_2, hx435_3, hx435_4, hx435_5, hx435_6⟩ := at_T83 HR0.out x5_1 p435 q435
        cases e435
        replace p435 := eq_true p435
        replace q435 := eq_true q435
        have p436 : 0 ≤ (x5_1 : Int) := of_decide_eq_true (by first | (with_reducible assumption) | assumption)
        have q436 : x5_1 < (l1.length : Int) := of_decide_eq_true (by first | (with_reducible assumption) | assumption)
        obtain ⟨ad436, e436, hx436_0, hx436_1, hx436_2, hx436_3, hx436_4, hx436_5, hx436_6⟩ := at_T83 HR1.out x5_1 p436 q436
        cases e436
        replace p436 := eq_true p436
        replace q436 := eq_true q436
        go_wp2
        repeat (go_quiet (fail); try go_wp2)
        go_roundg k1
        case measure => have := HK1.out; omega
        case rel => exact ⟨(wrap64 (x5_1 + 1)), (by first | rfl | (simp; done) | (simp [*]; done)), H', ⟨by have := HK1.out; omega⟩, by repeat (first | exact Drawn0.refl _ | apply Drawn0.step)⟩
      ·rw [if_neg c6] at H
       exact absurd H (by simp)
     ·rw [if_neg c5] at H
      exact absurd H (by simp)
    ·rw [if_neg c4] at H
     have c4b0 : decide (x5_1 < (l0.length : Int)) = false := decide_eq_false c4
     clear c4
     obtain rfl := Option.some.inj H
     go_wp2
     repeat (go_quiet (fail); try go_wp2)
     go_ret
     exact ⟨by first | rfl | (simp; done) | (simp [*]; done), by repeat (first | exact Drawn0.refl _ | apply Drawn0.step)⟩
 ·rw [if_neg c3] at H
  have c3b0 : ((l0.length : Int) == (l1.length : Int)) = false := beq_eq_false_iff_ne.mpr c3
  have c3b1 : ((l0.length : Int) != (l1.length : Int)) = true := bne_iff_ne.mpr c3
  have c3b2 : (l0.length == l1.length) = false := by first | simpa using c3 | (simp at c3 ⊢; omega)
  obtain rfl := Option.some.inj H
  go_enter Try.func39, Try.ntmps39
  go_wp2
  repeat (go_quiet (fail); try go_wp2)
  go_ret
  exact ⟨by first | rfl | (simp; done) | (simp [*]; done), by repeat (first | exact Drawn0.refl _ | apply Drawn0.step)⟩
end Go.Proofs.Ytjfgapaohldbkaa.QA


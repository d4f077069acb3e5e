/- Written by a program of this session (wip/myprint.sh): contracts of Go functions of the translation: each call comes to what the Lean function of its name says. -/
import Derived.Test.YtjfgapaohldbkaaZQAll
namespace Go.Proofs.Ytjfgapaohldbkaa.QA
open Go.RowKit Go.Proofs.YtjfgapaohldbkaaW.PrintWords Go.Proofs.YtjfgapaohldbkaaW.PrintLast Go.Proofs.YtjfgapaohldbkaaW.PrintMore
attribute [local go_sem] max2_int min2_int max_two min_two max_three min_three max_four min_four   -- for this text's walks alone
set_option linter.unusedVariables false
set_option linter.unusedSimpArgs false
mutual
def antipodelaw14_LightCmd.l0 : Nat → Int → Int → Int → Int → Int → Int → Int → Int → Int → Int → Int → Int → Int → Bool → List (S65) → List (S67) → Option (Bool)
 | 0, _, _, _, _, _, _, _, _, _, _, _, _, _, _, _, _ => none
 | k + 1, x3, x4, x280000, x280001, x280002, x280003, x280004, x280005, x280006, x280007, x280008, x280009, x280010, x280011, x280012, x280013 => if x4 < (x280012.length : Int) then (antipodelaw14_LightCmd.j1 k x3 x4 (decide (x3 < 16384)) x280000 x280001 x280002 x280003 x280004 x280005 x280006 x280007 x280008 x280009 x280010 x280011 x280012 x280013) else (antipodelaw14_LightCmd.j1 k x3 x4 false x280000 x280001 x280002 x280003 x280004 x280005 x280006 x280007 x280008 x280009 x280010 x280011 x280012 x280013)
def antipodelaw14_LightCmd.j1 : Nat → Int → Int → Bool → Int → Int → Int → Int → Int → Int → Int → Int → Int → Int → Int → Bool → List (S65) → List (S67) → Option (Bool)
 | 0, _, _, _, _, _, _, _, _, _, _, _, _, _, _, _, _, _ => none
 | k + 1, x3, x4, x14, x280000, x280001, x280002, x280003, x280004, x280005, x280006, x280007, x280008, x280009, x280010, x280011, x280012, x280013 => if x14 = true then (if 0 ≤ x4 then (if x4 < (x280012.length : Int) then (if (((rd_T65 x280012 x4).f0).size : Int) > 8192 then (some false) else (if (((rd_T65 x280012 x4).f1).size : Int) > 8192 then (some false) else (antipodelaw14_LightCmd.l0 k (wrap64 ((wrap64 (x3 + (((rd_T65 x280012 x4).f0).size : Int))) + (((rd_T65 x280012 x4).f1).size : Int))) (wrap64 (x4 + 1)) x280000 x280001 x280002 x280003 x280004 x280005 x280006 x280007 x280008 x280009 x280010 x280011 x280012 x280013))) else (none)) else (none)) else (antipodelaw14_LightCmd.l1 k x3 0 x280000 x280001 x280002 x280003 x280004 x280005 x280006 x280007 x280008 x280009 x280010 x280011 x280012 x280013)
def antipodelaw14_LightCmd.l1 : Nat → Int → Int → Int → Int → Int → Int → Int → Int → Int → Int → Int → Int → Int → Bool → List (S65) → List (S67) → Option (Bool)
 | 0, _, _, _, _, _, _, _, _, _, _, _, _, _, _, _, _ => none
 | k + 1, x3, x5, x280000, x280001, x280002, x280003, x280004, x280005, x280006, x280007, x280008, x280009, x280010, x280011, x280012, x280013 => if x5 < (x280013.length : Int) then (antipodelaw14_LightCmd.j3 k x3 x5 (decide (x3 < 16384)) x280000 x280001 x280002 x280003 x280004 x280005 x280006 x280007 x280008 x280009 x280010 x280011 x280012 x280013) else (antipodelaw14_LightCmd.j3 k x3 x5 false x280000 x280001 x280002 x280003 x280004 x280005 x280006 x280007 x280008 x280009 x280010 x280011 x280012 x280013)
def antipodelaw14_LightCmd.j3 : Nat → Int → Int → Bool → Int → Int → Int → Int → Int → Int → Int → Int → Int → Int → Int → Bool → List (S65) → List (S67) → Option (Bool)
 | 0, _, _, _, _, _, _, _, _, _, _, _, _, _, _, _, _, _ => none
 | k + 1, x3, x5, x60, x280000, x280001, x280002, x280003, x280004, x280005, x280006, x280007, x280008, x280009, x280010, x280011, x280012, x280013 => if x60 = true then (if 0 ≤ x5 then (if x5 < (x280013.length : Int) then (if (((rd_T67 x280013 x5).f0).size : Int) > 8192 then (some false) else (if (((rd_T67 x280013 x5).f2).size : Int) > 8192 then (some false) else (antipodelaw14_LightCmd.l1 k (wrap64 ((wrap64 (x3 + (((rd_T67 x280013 x5).f0).size : Int))) + (((rd_T67 x280013 x5).f2).size : Int))) (wrap64 (x5 + 1)) x280000 x280001 x280002 x280003 x280004 x280005 x280006 x280007 x280008 x280009 x280010 x280011 x280012 x280013))) else (none)) else (none)) else (if x3 < 8192 then (if (x280012.length : Int) < 100 then (some (decide ((x280013.length : Int) < 100))) else (some false)) else (some false))
end
def antipodelaw14_LightCmd.f (k : Nat) (a0_0 : Int) (a0_1 : Int) (a0_2 : Int) (a0_3 : Int) (a0_4 : Int) (a0_5 : Int) (a0_6 : Int) (a0_7 : Int) (a0_8 : Int) (a0_9 : Int) (a0_10 : Int) (a0_11 : Bool) (l0_12 : List (S65)) (l0_13 : List (S67)) : Option (Bool) := antipodelaw14_LightCmd.l0 k 0 0 a0_0 a0_1 a0_2 a0_3 a0_4 a0_5 a0_6 a0_7 a0_8 a0_9 a0_10 a0_11 l0_12 l0_13
set_option maxHeartbeats 8000000 in
set_option maxRecDepth 100000 in
theorem antipodelaw14_LightCmd.calls (k : Nat) (a0_0 : Int) (a0_1 : Int) (a0_2 : Int) (a0_3 : Int) (a0_4 : Int) (a0_5 : Int) (a0_6 : Int) (a0_7 : Int) (a0_8 : Int) (a0_9 : Int) (a0_10 : Int) (a0_11 : Bool) (A0_12 : Option Addr) (c0_12 : Nat) (l0_12 : List (S65)) (A0_13 : Option Addr) (c0_13 : Nat) (l0_13 : List (S67)) (r : Bool) (w : World) (hr0_12 : Kd.C k65 w A0_12 l0_12.length l0_12) (hc0_12 : l0_12.length ≤ c0_12) (hr0_13 : Kd.C k67 w A0_13 l0_13.length l0_13) (hc0_13 : l0_13.length ≤ c0_13) (h : antipodelaw14_LightCmd.f k a0_0 a0_1 a0_2 a0_3 a0_4 a0_5 a0_6 a0_7 a0_8 a0_9 a0_10 a0_11 l0_12 l0_13 = some r) :
  Calls Try.prog 8 #[.agg #[.int .i64 a0_0, .int .i64 a0_1, .int .i64 a0_2, .int .i64 a0_3, .int .i64 a0_4, .int .i64 a0_5, .int .i64 a0_6, .int .i64 a0_7, .int .i64 a0_8, .int .i64 a0_9, .int .i64 a0_10, .bool a0_11, .slice A0_12 l0_12.length c0_12, .slice A0_13 l0_13.length c0_13]] w fun e w' => e = .returned (.bool r) ∧ Below w.heap.size w w' := by
 have hu29 := Try.underlying29
 have HR0_12 := Aside0.mk hr0_12
 have HC0_12 := Aside0.mk hc0_12
 clear hr0_12 hc0_12
 have HR0_13 := Aside0.mk hr0_13
 have HC0_13 := Aside0.mk hc0_13
 clear hr0_13 hc0_13
 have HB := Aside0.mk (Below.refl w.heap.size w)
 have H : (antipodelaw14_LightCmd.l0 k 0 0 a0_0 a0_1 a0_2 a0_3 a0_4 a0_5 a0_6 a0_7 a0_8 a0_9 a0_10 a0_11 l0_12 l0_13) = some r := h
 clear h
 have H' := Aside0.mk H
 clear H
 go_enter Try.func8, Try.ntmps8
 go_wp2_with (first | ((with_reducible refine gate_dst (N := 1) rfl ?_); (try (refine gate_guard (by rfl) ?_; dsimp only)); refine qX 1 #[.int .i64 a0_0, .int .i64 a0_1, .int .i64 a0_2, .int .i64 a0_3, .int .i64 a0_4, .int .i64 a0_5, .int .i64 a0_6, .int .i64 a0_7, .int .i64 a0_8, .int .i64 a0_9, .int .i64 a0_10, .bool a0_11, .slice A0_12 l0_12.length c0_12, .slice A0_13 l0_13.length c0_13] 29 ?_; intro gb279 hg w2 hbox hb; have BK279 := Aside0.mk (hbox); have GW279 := Aside0.mk ((qZ HB.out hg)); have GE279 := Aside0.mk ((qZ HB.out hg)); replace HB := Aside0.mk (below_step (qB HB.out) hb); clear hb hbox hg))
 repeat (go_quiet (first | ((with_reducible refine gate_dst (N := 1) rfl ?_); (try (refine gate_guard (by rfl) ?_; dsimp only)); refine qX 1 #[.int .i64 a0_0, .int .i64 a0_1, .int .i64 a0_2, .int .i64 a0_3, .int .i64 a0_4, .int .i64 a0_5, .int .i64 a0_6, .int .i64 a0_7, .int .i64 a0_8, .int .i64 a0_9, .int .i64 a0_10, .bool a0_11, .slice A0_12 l0_12.length c0_12, .slice A0_13 l0_13.length c0_13] 29 ?_; intro gb279 hg w2 hbox hb; have BK279 := Aside0.mk (hbox); have GW279 := Aside0.mk ((qZ HB.out hg)); have GE279 := Aside0.mk ((qZ HB.out hg)); replace HB := Aside0.mk (below_step (qB HB.out) hb); clear hb hbox hg)); try go_wp2_with (first | ((with_reducible refine gate_dst (N := 1) rfl ?_); (try (refine gate_guard (by rfl) ?_; dsimp only)); refine qX 1 #[.int .i64 a0_0, .int .i64 a0_1, .int .i64 a0_2, .int .i64 a0_3, .int .i64 a0_4, .int .i64 a0_5, .int .i64 a0_6, .int .i64 a0_7, .int .i64 a0_8, .int .i64 a0_9, .int .i64 a0_10, .bool a0_11, .slice A0_12 l0_12.length c0_12, .slice A0_13 l0_13.length c0_13] 29 ?_; intro gb279 hg w2 hbox hb; have BK279 := Aside0.mk (hbox); have GW279 := Aside0.mk ((qZ HB.out hg)); have GE279 := Aside0.mk ((qZ HB.out hg)); replace HB := Aside0.mk (below_step (qB HB.out) hb); clear hb hbox hg)))
 go_loopg [3, 4] k (fun kq v3 v4 w' => ∃ (x3_1 : Int) (x4_1 : Int), v3 = .int .i64 x3_1 ∧ v4 = .int .i64 x4_1 ∧ Aside0 (antipodelaw14_LightCmd.l0 kq x3_1 x4_1 a0_0 a0_1 a0_2 a0_3 a0_4 a0_5 a0_6 a0_7 a0_8 a0_9 a0_10 a0_11 l0_12 l0_13 = some r) ∧ Aside0 (kq ≤ k) ∧ Aside0 (w'.heap[gb279]? = some (.cells #[.int .i64 a0_0, .int .i64 a0_1, .int .i64 a0_2, .int .i64 a0_3, .int .i64 a0_4, .int .i64 a0_5, .int .i64 a0_6, .int .i64 a0_7, .int .i64 a0_8, .int .i64 a0_9, .int .i64 a0_10, .bool a0_11, (.slice A0_12 l0_12.length c0_12), (.slice A0_13 l0_13.length c0_13)] 29 (0, 0))) ∧ Aside0 (Below w.heap.size w w'))
 case atStart => exact ⟨(0), (0), (by first | rfl | (simp; done) | (simp [*]; done)), (by first | rfl | (simp; done) | (simp [*]; done)), H', ⟨Nat.le_refl _⟩, ⟨qK BK279.out⟩, ⟨qB HB.out⟩⟩
 case round =>
  clear H'
  try clear p2
  obtain ⟨x3_1, x4_1, rfl, rfl, HA, HK1, BK279, HB⟩ := hrel
  cases gk with
  | zero => exact absurd HA.out (by simp [antipodelaw14_LightCmd.l0])
  | succ k1 =>
   have H := HA.out
   clear HA
   simp only [antipodelaw14_LightCmd.l0] at H
   have HC3 := Aside0.mk H
   clear H
   go_upto_region 3 with (fail)
   repeat (go_quiet (fail); go_upto_region 3 with (fail))
   go_cut [14] (fun v14 wc => ∃ (kq : Nat) (x14_2 : Bool), v14 = .bool x14_2 ∧ Aside0 (antipodelaw14_LightCmd.j1 kq x3_1 x4_1 x14_2 a0_0 a0_1 a0_2 a0_3 a0_4 a0_5 a0_6 a0_7 a0_8 a0_9 a0_10 a0_11 l0_12 l0_13 = some r) ∧ Aside0 (kq ≤ k1) ∧ Aside0 (wc.heap[gb279]? = some (.cells #[.int .i64 a0_0, .int .i64 a0_1, .int .i64 a0_2, .int .i64 a0_3, .int .i64 a0_4, .int .i64 a0_5, .int .i64 a0_6, .int .i64 a0_7, .int .i64 a0_8, .int .i64 a0_9, .int .i64 a0_10, .bool a0_11, (.slice A0_12 l0_12.length c0_12), (.slice A0_13 l0_13.length c0_13)] 29 (0, 0))) ∧ Aside0 (Below w.heap.size w wc))
   case first =>
    have H := HC3.out
    clear HC3
    by_cases c4 : x4_1 < (l0_12.length : Int)
    ·rw [if_pos c4] at H
     have c4b0 : decide (x4_1 < (l0_12.length : Int)) = true := decide_eq_true c4
     clear c4
     (first | rw [c4b0] | (simp only [i64_w, i32_w]; rw [c4b0]) | skip)
     have H' := Aside0.mk H
     clear H
     have hcz5_0 : wr.cell? ⟨gb279, 0, none⟩ = some (.int .i64 a0_0) := (blk_cell BK279.out 0).trans rfl
     have hcz5_1 : wr.cell? ⟨gb279, 1, none⟩ = some (.int .i64 a0_1) := (blk_cell BK279.out 1).trans rfl
     have hcz5_2 : wr.cell? ⟨gb279, 2, none⟩ = some (.int .i64 a0_2) := (blk_cell BK279.out 2).trans rfl
     have hcz5_3 : wr.cell? ⟨gb279, 3, none⟩ = some (.int .i64 a0_3) := (blk_cell BK279.out 3).trans rfl
     have hcz5_4 : wr.cell? ⟨gb279, 4, none⟩ = some (.int .i64 a0_4) := (blk_cell BK279.out 4).trans rfl
     have hcz5_5 : wr.cell? ⟨gb279, 5, none⟩ = some (.int .i64 a0_5) := (blk_cell BK279.out 5).trans rfl
     have hcz5_6 : wr.cell? ⟨gb279, 6, none⟩ = some (.int .i64 a0_6) := (blk_cell BK279.out 6).trans rfl
     have hcz5_7 : wr.cell? ⟨gb279, 7, none⟩ = some (.int .i64 a0_7) := (blk_cell BK279.out 7).trans rfl
     have hcz5_8 : wr.cell? ⟨gb279, 8, none⟩ = some (.int .i64 a0_8) := (blk_cell BK279.out 8).trans rfl
     have hcz5_9 : wr.cell? ⟨gb279, 9, none⟩ = some (.int .i64 a0_9) := (blk_cell BK279.out 9).trans rfl
     have hcz5_10 : wr.cell? ⟨gb279, 10, none⟩ = some (.int .i64 a0_10) := (blk_cell BK279.out 10).trans rfl
     have hcz5_11 : wr.cell? ⟨gb279, 11, none⟩ = some (.bool a0_11) := (blk_cell BK279.out 11).trans rfl
     have hcz5_12 : wr.cell? ⟨gb279, 12, none⟩ = some (.slice A0_12 l0_12.length c0_12) := (blk_cell BK279.out 12).trans rfl
     have hcz5_13 : wr.cell? ⟨gb279, 13, none⟩ = some (.slice A0_13 l0_13.length c0_13) := (blk_cell BK279.out 13).trans rfl
     have hfz5_0 := blk_frozen BK279.out 0
     have hfz5_1 := blk_frozen BK279.out 1
     have hfz5_2 := blk_frozen BK279.out 2
     have hfz5_3 := blk_frozen BK279.out 3
     have hfz5_4 := blk_frozen BK279.out 4
     have hfz5_5 := blk_frozen BK279.out 5
     have hfz5_6 := blk_frozen BK279.out 6
     have hfz5_7 := blk_frozen BK279.out 7
     have hfz5_8 := blk_frozen BK279.out 8
     have hfz5_9 := blk_frozen BK279.out 9
     have hfz5_10 := blk_frozen BK279.out 10
     have hfz5_11 := blk_frozen BK279.out 11
     have hfz5_12 := blk_frozen BK279.out 12
     have hfz5_13 := blk_frozen BK279.out 13
     go_wp2
     repeat (go_quiet (fail); try go_wp2)
     go_meet
     case rel => exact ⟨_, (decide (x3_1 < 16384)), (by first | rfl | (simp; done) | (simp [*]; done)), H', ⟨by have := HK1.out; first | omega | exact Nat.le_refl _⟩, ⟨qK BK279.out⟩, ⟨qB HB.out⟩⟩
    ·rw [if_neg c4] at H
     have c4b0 : decide (x4_1 < (l0_12.length : Int)) = false := decide_eq_false c4
     clear c4
     (first | rw [c4b0] | (simp only [i64_w, i32_w]; rw [c4b0]) | skip)
     have H' := Aside0.mk H
     clear H
     have hcz6_0 : wr.cell? ⟨gb279, 0, none⟩ = some (.int .i64 a0_0) := (blk_cell BK279.out 0).trans rfl
     have hcz6_1 : wr.cell? ⟨gb279, 1, none⟩ = some (.int .i64 a0_1) := (blk_cell BK279.out 1).trans rfl
     have hcz6_2 : wr.cell? ⟨gb279, 2, none⟩ = some (.int .i64 a0_2) := (blk_cell BK279.out 2).trans rfl
     have hcz6_3 : wr.cell? ⟨gb279, 3, none⟩ = some (.int .i64 a0_3) := (blk_cell BK279.out 3).trans rfl
     have hcz6_4 : wr.cell? ⟨gb279, 4, none⟩ = some (.int .i64 a0_4) := (blk_cell BK279.out 4).trans rfl
     have hcz6_5 : wr.cell? ⟨gb279, 5, none⟩ = some (.int .i64 a0_5) := (blk_cell BK279.out 5).trans rfl
     have hcz6_6 : wr.cell? ⟨gb279, 6, none⟩ = some (.int .i64 a0_6) := (blk_cell BK279.out 6).trans rfl
     have hcz6_7 : wr.cell? ⟨gb279, 7, none⟩ = some (.int .i64 a0_7) := (blk_cell BK279.out 7).trans rfl
     have hcz6_8 : wr.cell? ⟨gb279, 8, none⟩ = some (.int .i64 a0_8) := (blk_cell BK279.out 8).trans rfl
     have hcz6_9 : wr.cell? ⟨gb279, 9, none⟩ = some (.int .i64 a0_9) := (blk_cell BK279.out 9).trans rfl
     have hcz6_10 : wr.cell? ⟨gb279, 10, none⟩ = some (.int .i64 a0_10) := (blk_cell BK279.out 10).trans rfl
     have hcz6_11 : wr.cell? ⟨gb279, 11, none⟩ = some (.bool a0_11) := (blk_cell BK279.out 11).trans rfl
     have hcz6_12 : wr.cell? ⟨gb279, 12, none⟩ = some (.slice A0_12 l0_12.length c0_12) := (blk_cell BK279.out 12).trans rfl
     have hcz6_13 : wr.cell? ⟨gb279, 13, none⟩ = some (.slice A0_13 l0_13.length c0_13) := (blk_cell BK279.out 13).trans rfl
     have hfz6_0 := blk_frozen BK279.out 0
     have hfz6_1 := blk_frozen BK279.out 1
     have hfz6_2 := blk_frozen BK279.out 2
     have hfz6_3 := blk_frozen BK279.out 3
     have hfz6_4 := blk_frozen BK279.out 4
     have hfz6_5 := blk_frozen BK279.out 5
     have hfz6_6 := blk_frozen BK279.out 6
     have hfz6_7 := blk_frozen BK279.out 7
     have hfz6_8 := blk_frozen BK279.out 8
     have hfz6_9 := blk_frozen BK279.out 9
     have hfz6_10 := blk_frozen BK279.out 10
     have hfz6_11 := blk_frozen BK279.out 11
     have hfz6_12 := blk_frozen BK279.out 12
     have hfz6_13 := blk_frozen BK279.out 13
     go_wp2
     repeat (go_quiet (fail); try go_wp2)
     go_meet
     case rel => exact ⟨_, (false), (by first | rfl | (simp; done) | (simp [*]; done)), H', ⟨by have := HK1.out; first | omega | exact Nat.le_refl _⟩, ⟨qK BK279.out⟩, ⟨qB HB.out⟩⟩
   case rest =>
    clear HC3
    try clear p2
    try clear c4
    try clear c4b0
    try clear hcz5_0
    try clear hcz5_1
    try clear hcz5_10
    try clear hcz5_11
    try clear hcz5_12
    try clear hcz5_13
    try clear hcz5_2
    try clear hcz5_3
    try clear hcz5_4
    try clear hcz5_5
    try clear hcz5_6
    try clear hcz5_7
    try clear hcz5_8
    try clear hcz5_9
    try clear hcz6_0
    try clear hcz6_1
    try clear hcz6_10
    try clear hcz6_11
    try clear hcz6_12
    try clear hcz6_13
    try clear hcz6_2
    try clear hcz6_3
    try clear hcz6_4
    try clear hcz6_5
    try clear hcz6_6
    try clear hcz6_7
    try clear hcz6_8
    try clear hcz6_9
    try clear hfz5_0
    try clear hfz5_1
    try clear hfz5_10
    try clear hfz5_11
    try clear hfz5_12
    try clear hfz5_13
    try clear hfz5_2
    try clear hfz5_3
    try clear hfz5_4
    try clear hfz5_5
    try clear hfz5_6
    try clear hfz5_7
    try clear hfz5_8
    try clear hfz5_9
    try clear hfz6_0
    try clear hfz6_1
    try clear hfz6_10
    try clear hfz6_11
    try clear hfz6_12
    try clear hfz6_13
    try clear hfz6_2
    try clear hfz6_3
    try clear hfz6_4
    try clear hfz6_5
    try clear hfz6_6
    try clear hfz6_7
    try clear hfz6_8
    try clear hfz6_9
    try clear p2
    obtain ⟨kq, x14_2, rfl, HA, HJ2, BK279, HB⟩ := hcut
    cases kq with
    | zero => exact absurd HA.out (by simp [antipodelaw14_LightCmd.j1])
    | succ kj2 =>
     have H := HA.out
     clear HA
     simp only [antipodelaw14_LightCmd.j1] at H
     by_cases c7 : x14_2 = true
     ·subst c7
      have H1 : (if 0 ≤ x4_1 then (if x4_1 < (l0_12.length : Int) then (if (((rd_T65 l0_12 x4_1).f0).size : Int) > 8192 then (some false) else (if (((rd_T65 l0_12 x4_1).f1).size : Int) > 8192 then (some false) else (antipodelaw14_LightCmd.l0 kj2 (wrap64 ((wrap64 (x3_1 + (((rd_T65 l0_12 x4_1).f0).size : Int))) + (((rd_T65 l0_12 x4_1).f1).size : Int))) (wrap64 (x4_1 + 1)) a0_0 a0_1 a0_2 a0_3 a0_4 a0_5 a0_6 a0_7 a0_8 a0_9 a0_10 a0_11 l0_12 l0_13))) else (none)) else (none)) = some r := by rw [if_pos rfl] at H; exact H
      clear H
      have H := H1
      clear H1
      by_cases c8 : 0 ≤ x4_1
      ·rw [if_pos c8] at H
       have c8b0 : decide (0 ≤ x4_1) = true := decide_eq_true c8
       clear c8
       by_cases c9 : x4_1 < (l0_12.length : Int)
       ·rw [if_pos c9] at H
        have c9b0 : decide (x4_1 < (l0_12.length : Int)) = true := decide_eq_true c9
        clear c9
        by_cases c10 : (((rd_T65 l0_12 x4_1).f0).size : Int) > 8192
        ·rw [if_pos c10] at H
         have c10b0 : decide (8192 < (((rd_T65 l0_12 x4_1).f0).size : Int)) = true := decide_eq_true c10
         have c10b1 : decide (8192 < ((rd_T65 l0_12 x4_1).f0).size) = true := decide_eq_true (by omega)
         clear c10
         obtain rfl := Option.some.inj H
         have hcz11_0 : wc.cell? ⟨gb279, 0, none⟩ = some (.int .i64 a0_0) := (blk_cell BK279.out 0).trans rfl
         have hcz11_1 : wc.cell? ⟨gb279, 1, none⟩ = some (.int .i64 a0_1) := (blk_cell BK279.out 1).trans rfl
         have hcz11_2 : wc.cell? ⟨gb279, 2, none⟩ = some (.int .i64 a0_2) := (blk_cell BK279.out 2).trans rfl
         have hcz11_3 : wc.cell? ⟨gb279, 3, none⟩ = some (.int .i64 a0_3) := (blk_cell BK279.out 3).trans rfl
         have hcz11_4 : wc.cell? ⟨gb279, 4, none⟩ = some (.int .i64 a0_4) := (blk_cell BK279.out 4).trans rfl
         have hcz11_5 : wc.cell? ⟨gb279, 5, none⟩ = some (.int .i64 a0_5) := (blk_cell BK279.out 5).trans rfl
         have hcz11_6 : wc.cell? ⟨gb279, 6, none⟩ = some (.int .i64 a0_6) := (blk_cell BK279.out 6).trans rfl
         have hcz11_7 : wc.cell? ⟨gb279, 7, none⟩ = some (.int .i64 a0_7) := (blk_cell BK279.out 7).trans rfl
         have hcz11_8 : wc.cell? ⟨gb279, 8, none⟩ = some (.int .i64 a0_8) := (blk_cell BK279.out 8).trans rfl
         have hcz11_9 : wc.cell? ⟨gb279, 9, none⟩ = some (.int .i64 a0_9) := (blk_cell BK279.out 9).trans rfl
         have hcz11_10 : wc.cell? ⟨gb279, 10, none⟩ = some (.int .i64 a0_10) := (blk_cell BK279.out 10).trans rfl
         have hcz11_11 : wc.cell? ⟨gb279, 11, none⟩ = some (.bool a0_11) := (blk_cell BK279.out 11).trans rfl
         have hcz11_12 : wc.cell? ⟨gb279, 12, none⟩ = some (.slice A0_12 l0_12.length c0_12) := (blk_cell BK279.out 12).trans rfl
         have hcz11_13 : wc.cell? ⟨gb279, 13, none⟩ = some (.slice A0_13 l0_13.length c0_13) := (blk_cell BK279.out 13).trans rfl
         have hfz11_0 := blk_frozen BK279.out 0
         have hfz11_1 := blk_frozen BK279.out 1
         have hfz11_2 := blk_frozen BK279.out 2
         have hfz11_3 := blk_frozen BK279.out 3
         have hfz11_4 := blk_frozen BK279.out 4
         have hfz11_5 := blk_frozen BK279.out 5
         have hfz11_6 := blk_frozen BK279.out 6
         have hfz11_7 := blk_frozen BK279.out 7
         have hfz11_8 := blk_frozen BK279.out 8
         have hfz11_9 := blk_frozen BK279.out 9
         have hfz11_10 := blk_frozen BK279.out 10
         have hfz11_11 := blk_frozen BK279.out 11
         have hfz11_12 := blk_frozen BK279.out 12
         have hfz11_13 := blk_frozen BK279.out 13
         have p280 : 0 ≤ (x4_1 : Int) := of_decide_eq_true (by first | (with_reducible assumption) | assumption)
         have q280 : x4_1 < (l0_12.length : Int) := of_decide_eq_true (by first | (with_reducible assumption) | assumption)
         obtain ⟨ad280, e280, hx280_0, hx280_1⟩ := at_T65 HR0_12.out x4_1 p280 q280
         cases e280
         replace hx280_0 := (HB.out.cell (World.block_lt_of_cell? w _ hx280_0)).trans hx280_0
         replace hx280_1 := (HB.out.cell (World.block_lt_of_cell? w _ hx280_1)).trans hx280_1
         replace p280 := eq_true p280
         replace q280 := eq_true q280
         go_wp2
         repeat (go_quiet (fail); try go_wp2)
         go_ret
         exact ⟨by first | rfl | (simp [errW_none, errW_some] <;> rfl) | (simp [*, errW_none, errW_some] <;> rfl), qB HB.out⟩
        ·rw [if_neg c10] at H
         have c10b0 : decide (8192 < (((rd_T65 l0_12 x4_1).f0).size : Int)) = false := decide_eq_false c10
         have c10b1 : decide (8192 < ((rd_T65 l0_12 x4_1).f0).size) = false := decide_eq_false (by omega)
         clear c10
         by_cases c12 : (((rd_T65 l0_12 x4_1).f1).size : Int) > 8192
         ·rw [if_pos c12] at H
          have c12b0 : decide (8192 < (((rd_T65 l0_12 x4_1).f1).size : Int)) = true := decide_eq_true c12
          have c12b1 : decide (8192 < ((rd_T65 l0_12 x4_1).f1).size) = true := decide_eq_true (by omega)
          clear c12
          obtain rfl := Option.some.inj H
          have hcz13_0 : wc.cell? ⟨gb279, 0, none⟩ = some (.int .i64 a0_0) := (blk_cell BK279.out 0).trans rfl
          have hcz13_1 : wc.cell? ⟨gb279, 1, none⟩ = some (.int .i64 a0_1) := (blk_cell BK279.out 1).trans rfl
          have hcz13_2 : wc.cell? ⟨gb279, 2, none⟩ = some (.int .i64 a0_2) := (blk_cell BK279.out 2).trans rfl
          have hcz13_3 : wc.cell? ⟨gb279, 3, none⟩ = some (.int .i64 a0_3) := (blk_cell BK279.out 3).trans rfl
          have hcz13_4 : wc.cell? ⟨gb279, 4, none⟩ = some (.int .i64 a0_4) := (blk_cell BK279.out 4).trans rfl
          have hcz13_5 : wc.cell? ⟨gb279, 5, none⟩ = some (.int .i64 a0_5) := (blk_cell BK279.out 5).trans rfl
          have hcz13_6 : wc.cell? ⟨gb279, 6, none⟩ = some (.int .i64 a0_6) := (blk_cell BK279.out 6).trans rfl
          have hcz13_7 : wc.cell? ⟨gb279, 7, none⟩ = some (.int .i64 a0_7) := (blk_cell BK279.out 7).trans rfl
          have hcz13_8 : wc.cell? ⟨gb279, 8, none⟩ = some (.int .i64 a0_8) := (blk_cell BK279.out 8).trans rfl
          have hcz13_9 : wc.cell? ⟨gb279, 9, none⟩ = some (.int .i64 a0_9) := (blk_cell BK279.out 9).trans rfl
          have hcz13_10 : wc.cell? ⟨gb279, 10, none⟩ = some (.int .i64 a0_10) := (blk_cell BK279.out 10).trans rfl
          have hcz13_11 : wc.cell? ⟨gb279, 11, none⟩ = some (.bool a0_11) := (blk_cell BK279.out 11).trans rfl
          have hcz13_12 : wc.cell? ⟨gb279, 12, none⟩ = some (.slice A0_12 l0_12.length c0_12) := (blk_cell BK279.out 12).trans rfl
          have hcz13_13 : wc.cell? ⟨gb279, 13, none⟩ = some (.slice A0_13 l0_13.length c0_13) := (blk_cell BK279.out 13).trans rfl
          have hfz13_0 := blk_frozen BK279.out 0
          have hfz13_1 := blk_frozen BK279.out 1
          have hfz13_2 := blk_frozen BK279.out 2
          have hfz13_3 := blk_frozen BK279.out 3
          have hfz13_4 := blk_frozen BK279.out 4
          have hfz13_5 := blk_frozen BK279.out 5
          have hfz13_6 := blk_frozen BK279.out 6
          have hfz13_7 := blk_frozen BK279.out 7
          have hfz13_8 := blk_frozen BK279.out 8
          have hfz13_9 := blk_frozen BK279.out 9
          have hfz13_10 := blk_frozen BK279.out 10
          have hfz13_11 := blk_frozen BK279.out 11
          have hfz13_12 := blk_frozen BK279.out 12
          have hfz13_13 := blk_frozen BK279.out 13
          have p280 : 0 ≤ (x4_1 : Int) := of_decide_eq_true (by first | (with_reducible assumption) | assumption)
          have q280 : x4_1 < (l0_12.length : Int) := of_decide_eq_true (by first | (with_reducible assumption) | assumption)
          obtain ⟨ad280, e280, hx280_0, hx280_1⟩ := at_T65 HR0_12.out x4_1 p280 q280
          cases e280
          replace hx280_0 := (HB.out.cell (World.block_lt_of_cell? w _ hx280_0)).trans hx280_0
          replace hx280_1 := (HB.out.cell (World.block_lt_of_cell? w _ hx280_1)).trans hx280_1
          replace p280 := eq_true p280
          replace q280 := eq_true q280
          have p281 : 0 ≤ (x4_1 : Int) := of_decide_eq_true (by first | (with_reducible assumption) | assumption)
          have q281 : x4_1 < (l0_12.length : Int) := of_decide_eq_true (by first | (with_reducible assumption) | assumption)
          obtain ⟨ad281, e281, hx281_0, hx281_1⟩ := at_T65 HR0_12.out x4_1 p281 q281
          obtain rfl : ad280 = ad281 := (by injection e281)
          replace hx281_0 := (HB.out.cell (World.block_lt_of_cell? w _ hx281_0)).trans hx281_0
          replace hx281_1 := (HB.out.cell (World.block_lt_of_cell? w _ hx281_1)).trans hx281_1
          replace p281 := eq_true p281
          replace q281 := eq_true q281
          go_wp2
          repeat (go_quiet (fail); try go_wp2)
          go_ret
          exact ⟨by first | rfl | (simp [errW_none, errW_some] <;> rfl) | (simp [*, errW_none, errW_some] <;> rfl), qB HB.out⟩
         ·rw [if_neg c12] at H
          have c12b0 : decide (8192 < (((rd_T65 l0_12 x4_1).f1).size : Int)) = false := decide_eq_false c12
          have c12b1 : decide (8192 < ((rd_T65 l0_12 x4_1).f1).size) = false := decide_eq_false (by omega)
          clear c12
          have H' := Aside0.mk H
          clear H
          have hcz14_0 : wc.cell? ⟨gb279, 0, none⟩ = some (.int .i64 a0_0) := (blk_cell BK279.out 0).trans rfl
          have hcz14_1 : wc.cell? ⟨gb279, 1, none⟩ = some (.int .i64 a0_1) := (blk_cell BK279.out 1).trans rfl
          have hcz14_2 : wc.cell? ⟨gb279, 2, none⟩ = some (.int .i64 a0_2) := (blk_cell BK279.out 2).trans rfl
          have hcz14_3 : wc.cell? ⟨gb279, 3, none⟩ = some (.int .i64 a0_3) := (blk_cell BK279.out 3).trans rfl
          have hcz14_4 : wc.cell? ⟨gb279, 4, none⟩ = some (.int .i64 a0_4) := (blk_cell BK279.out 4).trans rfl
          have hcz14_5 : wc.cell? ⟨gb279, 5, none⟩ = some (.int .i64 a0_5) := (blk_cell BK279.out 5).trans rfl
          have hcz14_6 : wc.cell? ⟨gb279, 6, none⟩ = some (.int .i64 a0_6) := (blk_cell BK279.out 6).trans rfl
          have hcz14_7 : wc.cell? ⟨gb279, 7, none⟩ = some (.int .i64 a0_7) := (blk_cell BK279.out 7).trans rfl
          have hcz14_8 : wc.cell? ⟨gb279, 8, none⟩ = some (.int .i64 a0_8) := (blk_cell BK279.out 8).trans rfl
          have hcz14_9 : wc.cell? ⟨gb279, 9, none⟩ = some (.int .i64 a0_9) := (blk_cell BK279.out 9).trans rfl
          have hcz14_10 : wc.cell? ⟨gb279, 10, none⟩ = some (.int .i64 a0_10) := (blk_cell BK279.out 10).trans rfl
          have hcz14_11 : wc.cell? ⟨gb279, 11, none⟩ = some (.bool a0_11) := (blk_cell BK279.out 11).trans rfl
          have hcz14_12 : wc.cell? ⟨gb279, 12, none⟩ = some (.slice A0_12 l0_12.length c0_12) := (blk_cell BK279.out 12).trans rfl
          have hcz14_13 : wc.cell? ⟨gb279, 13, none⟩ = some (.slice A0_13 l0_13.length c0_13) := (blk_cell BK279.out 13).trans rfl
          have hfz14_0 := blk_frozen BK279.out 0
          have hfz14_1 := blk_frozen BK279.out 1
          have hfz14_2 := blk_frozen BK279.out 2
          have hfz14_3 := blk_frozen BK279.out 3
          have hfz14_4 := blk_frozen BK279.out 4
          have hfz14_5 := blk_frozen BK279.out 5
          have hfz14_6 := blk_frozen BK279.out 6
          have hfz14_7 := blk_frozen BK279.out 7
          have hfz14_8 := blk_frozen BK279.out 8
          have hfz14_9 := blk_frozen BK279.out 9
          have hfz14_10 := blk_frozen BK279.out 10
          have hfz14_11 := blk_frozen BK279.out 11
          have hfz14_12 := blk_frozen BK279.out 12
          have hfz14_13 := blk_frozen BK279.out 13
          have p280 : 0 ≤ (x4_1 : Int) := of_decide_eq_true (by first | (with_reducible assumption) | assumption)
          have q280 : x4_1 < (l0_12.length : Int) := of_decide_eq_true (by first | (with_reducible assumption) | assumption)
          obtain ⟨ad280, e280, hx280_0, hx280_1⟩ := at_T65 HR0_12.out x4_1 p280 q280
          cases e280
          replace hx280_0 := (HB.out.cell (World.block_lt_of_cell? w _ hx280_0)).trans hx280_0
          replace hx280_1 := (HB.out.cell (World.block_lt_of_cell? w _ hx280_1)).trans hx280_1
          replace p280 := eq_true p280
          replace q280 := eq_true q280
          have p281 : 0 ≤ (x4_1 : Int) := of_decide_eq_true (by first | (with_reducible assumption) | assumption)
          have q281 : x4_1 < (l0_12.length : Int) := of_decide_eq_true (by first | (with_reducible assumption) | assumption)
          obtain ⟨ad281, e281, hx281_0, hx281_1⟩ := at_T65 HR0_12.out x4_1 p281 q281
          obtain rfl : ad280 = ad281 := (by injection e281)
          replace hx281_0 := (HB.out.cell (World.block_lt_of_cell? w _ hx281_0)).trans hx281_0
          replace hx281_1 := (HB.out.cell (World.block_lt_of_cell? w _ hx281_1)).trans hx281_1
          replace p281 := eq_true p281
          replace q281 := eq_true q281
          have p282 : 0 ≤ (x4_1 : Int) := of_decide_eq_true (by first | (with_reducible assumption) | assumption)
          have q282 : x4_1 < (l0_12.length : Int) := of_decide_eq_true (by first | (with_reducible assumption) | assumption)
          obtain ⟨ad282, e282, hx282_0, hx282_1⟩ := at_T65 HR0_12.out x4_1 p282 q282
          obtain rfl : ad280 = ad282 := (by injection e282)
          replace hx282_0 := (HB.out.cell (World.block_lt_of_cell? w _ hx282_0)).trans hx282_0
          replace hx282_1 := (HB.out.cell (World.block_lt_of_cell? w _ hx282_1)).trans hx282_1
          replace p282 := eq_true p282
          replace q282 := eq_true q282
          have p283 : 0 ≤ (x4_1 : Int) := of_decide_eq_true (by first | (with_reducible assumption) | assumption)
          have q283 : x4_1 < (l0_12.length : Int) := of_decide_eq_true (by first | (with_reducible assumption) | assumption)
          obtain ⟨ad283, e283, hx283_0, hx283_1⟩ := at_T65 HR0_12.out x4_1 p283 q283
          obtain rfl : ad280 = ad283 := (by injection e283)
          replace hx283_0 := (HB.out.cell (World.block_lt_of_cell? w _ hx283_0)).trans hx283_0
          replace hx283_1 := (HB.out.cell (World.block_lt_of_cell? w _ hx283_1)).trans hx283_1
          replace p283 := eq_true p283
          replace q283 := eq_true q283
          go_wp2
          repeat (go_quiet (fail); try go_wp2)
          go_roundg kj2
          case measure => have := HK1.out; have := HJ2.out; omega
          case rel => exact ⟨(wrap64 ((wrap64 (x3_1 + (((rd_T65 l0_12 x4_1).f0).size : Int))) + (((rd_T65 l0_12 x4_1).f1).size : Int))), (wrap64 (x4_1 + 1)), (by first | rfl | (simp; done) | (simp [*]; done)), (by first | rfl | (simp; done) | (simp [*]; done)), H', ⟨by have := HK1.out; have := HJ2.out; omega⟩, ⟨qK BK279.out⟩, ⟨qB HB.out⟩⟩
       ·rw [if_neg c9] at H
        exact absurd H (by simp)
      ·rw [if_neg c8] at H
       exact absurd H (by simp)
     ·replace c7 := Bool.eq_false_iff.mpr c7
      subst c7
      have H1 : (antipodelaw14_LightCmd.l1 kj2 x3_1 0 a0_0 a0_1 a0_2 a0_3 a0_4 a0_5 a0_6 a0_7 a0_8 a0_9 a0_10 a0_11 l0_12 l0_13) = some r := by rw [if_neg (show ¬ (false = true) by decide)] at H; exact H
      clear H
      have H := H1
      clear H1
      have H' := Aside0.mk H
      clear H
      go_wp2
      repeat (go_quiet (fail); try go_wp2)
      go_loopg [3, 5] kj2 (fun kq v3 v5 w' => ∃ (x3_3 : Int) (x5_3 : Int), v3 = .int .i64 x3_3 ∧ v5 = .int .i64 x5_3 ∧ Aside0 (antipodelaw14_LightCmd.l1 kq x3_3 x5_3 a0_0 a0_1 a0_2 a0_3 a0_4 a0_5 a0_6 a0_7 a0_8 a0_9 a0_10 a0_11 l0_12 l0_13 = some r) ∧ Aside0 (kq ≤ kj2) ∧ Aside0 (w'.heap[gb279]? = some (.cells #[.int .i64 a0_0, .int .i64 a0_1, .int .i64 a0_2, .int .i64 a0_3, .int .i64 a0_4, .int .i64 a0_5, .int .i64 a0_6, .int .i64 a0_7, .int .i64 a0_8, .int .i64 a0_9, .int .i64 a0_10, .bool a0_11, (.slice A0_12 l0_12.length c0_12), (.slice A0_13 l0_13.length c0_13)] 29 (0, 0))) ∧ Aside0 (Below w.heap.size w w'))
      case atStart => exact ⟨(x3_1), (0), (by first | rfl | (simp; done) | (simp [*]; done)), (by first | rfl | (simp; done) | (simp [*]; done)), H', ⟨Nat.le_refl _⟩, ⟨qK BK279.out⟩, ⟨qB HB.out⟩⟩
      case round =>
       clear H'
       try clear c1
       try clear p2
       try clear q2
       try clear hx2
       try clear c4
       try clear c4b0
       try clear p6
       try clear c7
       try clear c8
       try clear c8b0
       try clear c9
       try clear c9b0
       try clear c10
       try clear c10b0
       try clear c10b1
       try clear c12
       try clear c12b0
       try clear c12b1
       try clear hcz11_0
       try clear hcz11_1
       try clear hcz11_10
       try clear hcz11_11
       try clear hcz11_12
       try clear hcz11_13
       try clear hcz11_2
       try clear hcz11_3
       try clear hcz11_4
       try clear hcz11_5
       try clear hcz11_6
       try clear hcz11_7
       try clear hcz11_8
       try clear hcz11_9
       try clear hcz13_0
       try clear hcz13_1
       try clear hcz13_10
       try clear hcz13_11
       try clear hcz13_12
       try clear hcz13_13
       try clear hcz13_2
       try clear hcz13_3
       try clear hcz13_4
       try clear hcz13_5
       try clear hcz13_6
       try clear hcz13_7
       try clear hcz13_8
       try clear hcz13_9
       try clear hcz14_0
       try clear hcz14_1
       try clear hcz14_10
       try clear hcz14_11
       try clear hcz14_12
       try clear hcz14_13
       try clear hcz14_2
       try clear hcz14_3
       try clear hcz14_4
       try clear hcz14_5
       try clear hcz14_6
       try clear hcz14_7
       try clear hcz14_8
       try clear hcz14_9
       try clear hcz5_0
       try clear hcz5_1
       try clear hcz5_10
       try clear hcz5_11
       try clear hcz5_12
       try clear hcz5_13
       try clear hcz5_2
       try clear hcz5_3
       try clear hcz5_4
       try clear hcz5_5
       try clear hcz5_6
       try clear hcz5_7
       try clear hcz5_8
       try clear hcz5_9
       try clear hcz6_0
       try clear hcz6_1
       try clear hcz6_10
       try clear hcz6_11
       try clear hcz6_12
       try clear hcz6_13
       try clear hcz6_2
       try clear hcz6_3
       try clear hcz6_4
       try clear hcz6_5
       try clear hcz6_6
       try clear hcz6_7
       try clear hcz6_8
       try clear hcz6_9
       try clear hfz11_0
       try clear hfz11_1
       try clear hfz11_10
       try clear hfz11_11
       try clear hfz11_12
       try clear hfz11_13
       try clear hfz11_2
       try clear hfz11_3
       try clear hfz11_4
       try clear hfz11_5
       try clear hfz11_6
       try clear hfz11_7
       try clear hfz11_8
       try clear hfz11_9
       try clear hfz13_0
       try clear hfz13_1
       try clear hfz13_10
       try clear hfz13_11
       try clear hfz13_12
       try clear hfz13_13
       try clear hfz13_2
       try clear hfz13_3
       try clear hfz13_4
       try clear hfz13_5
       try clear hfz13_6
       try clear hfz13_7
       try clear hfz13_8
       try clear hfz13_9
       try clear hfz14_0
       try clear hfz14_1
       try clear hfz14_10
       try clear hfz14_11
       try clear hfz14_12
       try clear hfz14_13
       try clear hfz14_2
       try clear hfz14_3
       try clear hfz14_4
       try clear hfz14_5
       try clear hfz14_6
       try clear hfz14_7
       try clear hfz14_8
       try clear hfz14_9
       try clear hfz5_0
       try clear hfz5_1
       try clear hfz5_10
       try clear hfz5_11
       try clear hfz5_12
       try clear hfz5_13
       try clear hfz5_2
       try clear hfz5_3
       try clear hfz5_4
       try clear hfz5_5
       try clear hfz5_6
       try clear hfz5_7
       try clear hfz5_8
       try clear hfz5_9
       try clear hfz6_0
       try clear hfz6_1
       try clear hfz6_10
       try clear hfz6_11
       try clear hfz6_12
       try clear hfz6_13
       try clear hfz6_2
       try clear hfz6_3
       try clear hfz6_4
       try clear hfz6_5
       try clear hfz6_6
       try clear hfz6_7
       try clear hfz6_8
       try clear hfz6_9
       try clear hx280_0
       try clear hx280_1
       try clear hx281_0
       try clear hx281_1
       try clear hx282_0
       try clear hx282_1
       try clear hx283_0
       try clear hx283_1
       try clear p2
       try clear p280
       try clear p281
       try clear p282
       try clear p283
       try clear q280
       try clear q281
       try clear q282
       try clear q283
       obtain ⟨x3_3, x5_3, rfl, rfl, HA, HK3, BK279, HB⟩ := hrel
       cases gk with
       | zero => exact absurd HA.out (by simp [antipodelaw14_LightCmd.l1])
       | succ k3 =>
        have H := HA.out
        clear HA
        simp only [antipodelaw14_LightCmd.l1] at H
        have HC15 := Aside0.mk H
        clear H
        go_upto_region 9 with (fail)
        repeat (go_quiet (fail); go_upto_region 9 with (fail))
        go_cut [60] (fun v60 wc => ∃ (kq : Nat) (x60_14 : Bool), v60 = .bool x60_14 ∧ Aside0 (antipodelaw14_LightCmd.j3 kq x3_3 x5_3 x60_14 a0_0 a0_1 a0_2 a0_3 a0_4 a0_5 a0_6 a0_7 a0_8 a0_9 a0_10 a0_11 l0_12 l0_13 = some r) ∧ Aside0 (kq ≤ k3) ∧ Aside0 (wc.heap[gb279]? = some (.cells #[.int .i64 a0_0, .int .i64 a0_1, .int .i64 a0_2, .int .i64 a0_3, .int .i64 a0_4, .int .i64 a0_5, .int .i64 a0_6, .int .i64 a0_7, .int .i64 a0_8, .int .i64 a0_9, .int .i64 a0_10, .bool a0_11, (.slice A0_12 l0_12.length c0_12), (.slice A0_13 l0_13.length c0_13)] 29 (0, 0))) ∧ Aside0 (Below w.heap.size w wc))
        case first =>
         have H := HC15.out
         clear HC15
         by_cases c16 : x5_3 < (l0_13.length : Int)
         ·rw [if_pos c16] at H
          have c16b0 : decide (x5_3 < (l0_13.length : Int)) = true := decide_eq_true c16
          clear c16
          (first | rw [c16b0] | (simp only [i64_w, i32_w]; rw [c16b0]) | skip)
          have H' := Aside0.mk H
          clear H
          have hcz17_0 : wr.cell? ⟨gb279, 0, none⟩ = some (.int .i64 a0_0) := (blk_cell BK279.out 0).trans rfl
          have hcz17_1 : wr.cell? ⟨gb279, 1, none⟩ = some (.int .i64 a0_1) := (blk_cell BK279.out 1).trans rfl
          have hcz17_2 : wr.cell? ⟨gb279, 2, none⟩ = some (.int .i64 a0_2) := (blk_cell BK279.out 2).trans rfl
          have hcz17_3 : wr.cell? ⟨gb279, 3, none⟩ = some (.int .i64 a0_3) := (blk_cell BK279.out 3).trans rfl
          have hcz17_4 : wr.cell? ⟨gb279, 4, none⟩ = some (.int .i64 a0_4) := (blk_cell BK279.out 4).trans rfl
          have hcz17_5 : wr.cell? ⟨gb279, 5, none⟩ = some (.int .i64 a0_5) := (blk_cell BK279.out 5).trans rfl
          have hcz17_6 : wr.cell? ⟨gb279, 6, none⟩ = some (.int .i64 a0_6) := (blk_cell BK279.out 6).trans rfl
          have hcz17_7 : wr.cell? ⟨gb279, 7, none⟩ = some (.int .i64 a0_7) := (blk_cell BK279.out 7).trans rfl
          have hcz17_8 : wr.cell? ⟨gb279, 8, none⟩ = some (.int .i64 a0_8) := (blk_cell BK279.out 8).trans rfl
          have hcz17_9 : wr.cell? ⟨gb279, 9, none⟩ = some (.int .i64 a0_9) := (blk_cell BK279.out 9).trans rfl
          have hcz17_10 : wr.cell? ⟨gb279, 10, none⟩ = some (.int .i64 a0_10) := (blk_cell BK279.out 10).trans rfl
          have hcz17_11 : wr.cell? ⟨gb279, 11, none⟩ = some (.bool a0_11) := (blk_cell BK279.out 11).trans rfl
          have hcz17_12 : wr.cell? ⟨gb279, 12, none⟩ = some (.slice A0_12 l0_12.length c0_12) := (blk_cell BK279.out 12).trans rfl
          have hcz17_13 : wr.cell? ⟨gb279, 13, none⟩ = some (.slice A0_13 l0_13.length c0_13) := (blk_cell BK279.out 13).trans rfl
          have hfz17_0 := blk_frozen BK279.out 0
          have hfz17_1 := blk_frozen BK279.out 1
          have hfz17_2 := blk_frozen BK279.out 2
          have hfz17_3 := blk_frozen BK279.out 3
          have hfz17_4 := blk_frozen BK279.out 4
          have hfz17_5 := blk_frozen BK279.out 5
          have hfz17_6 := blk_frozen BK279.out 6
          have hfz17_7 := blk_frozen BK279.out 7
          have hfz17_8 := blk_frozen BK279.out 8
          have hfz17_9 := blk_frozen BK279.out 9
          have hfz17_10 := blk_frozen BK279.out 10
          have hfz17_11 := blk_frozen BK279.out 11
          have hfz17_12 := blk_frozen BK279.out 12
          have hfz17_13 := blk_frozen BK279.out 13
          go_wp2
          repeat (go_quiet (fail); try go_wp2)
          go_meet
          case rel => exact ⟨_, (decide (x3_3 < 16384)), (by first | rfl | (simp; done) | (simp [*]; done)), H', ⟨by have := HK1.out; have := HJ2.out; have := HK3.out; first | omega | exact Nat.le_refl _⟩, ⟨qK BK279.out⟩, ⟨qB HB.out⟩⟩
         ·rw [if_neg c16] at H
          have c16b0 : decide (x5_3 < (l0_13.length : Int)) = false := decide_eq_false c16
          clear c16
          (first | rw [c16b0] | (simp only [i64_w, i32_w]; rw [c16b0]) | skip)
          have H' := Aside0.mk H
          clear H
          have hcz18_0 : wr.cell? ⟨gb279, 0, none⟩ = some (.int .i64 a0_0) := (blk_cell BK279.out 0).trans rfl
          have hcz18_1 : wr.cell? ⟨gb279, 1, none⟩ = some (.int .i64 a0_1) := (blk_cell BK279.out 1).trans rfl
          have hcz18_2 : wr.cell? ⟨gb279, 2, none⟩ = some (.int .i64 a0_2) := (blk_cell BK279.out 2).trans rfl
          have hcz18_3 : wr.cell? ⟨gb279, 3, none⟩ = some (.int .i64 a0_3) := (blk_cell BK279.out 3).trans rfl
          have hcz18_4 : wr.cell? ⟨gb279, 4, none⟩ = some (.int .i64 a0_4) := (blk_cell BK279.out 4).trans rfl
          have hcz18_5 : wr.cell? ⟨gb279, 5, none⟩ = some (.int .i64 a0_5) := (blk_cell BK279.out 5).trans rfl
          have hcz18_6 : wr.cell? ⟨gb279, 6, none⟩ = some (.int .i64 a0_6) := (blk_cell BK279.out 6).trans rfl
          have hcz18_7 : wr.cell? ⟨gb279, 7, none⟩ = some (.int .i64 a0_7) := (blk_cell BK279.out 7).trans rfl
          have hcz18_8 : wr.cell? ⟨gb279, 8, none⟩ = some (.int .i64 a0_8) := (blk_cell BK279.out 8).trans rfl
          have hcz18_9 : wr.cell? ⟨gb279, 9, none⟩ = some (.int .i64 a0_9) := (blk_cell BK279.out 9).trans rfl
          have hcz18_10 : wr.cell? ⟨gb279, 10, none⟩ = some (.int .i64 a0_10) := (blk_cell BK279.out 10).trans rfl
          have hcz18_11 : wr.cell? ⟨gb279, 11, none⟩ = some (.bool a0_11) := (blk_cell BK279.out 11).trans rfl
          have hcz18_12 : wr.cell? ⟨gb279, 12, none⟩ = some (.slice A0_12 l0_12.length c0_12) := (blk_cell BK279.out 12).trans rfl
          have hcz18_13 : wr.cell? ⟨gb279, 13, none⟩ = some (.slice A0_13 l0_13.length c0_13) := (blk_cell BK279.out 13).trans rfl
          have hfz18_0 := blk_frozen BK279.out 0
          have hfz18_1 := blk_frozen BK279.out 1
          have hfz18_2 := blk_frozen BK279.out 2
          have hfz18_3 := blk_frozen BK279.out 3
          have hfz18_4 := blk_frozen BK279.out 4
          have hfz18_5 := blk_frozen BK279.out 5
          have hfz18_6 := blk_frozen BK279.out 6
          have hfz18_7 := blk_frozen BK279.out 7
          have hfz18_8 := blk_frozen BK279.out 8
          have hfz18_9 := blk_frozen BK279.out 9
          have hfz18_10 := blk_frozen BK279.out 10
          have hfz18_11 := blk_frozen BK279.out 11
          have hfz18_12 := blk_frozen BK279.out 12
          have hfz18_13 := blk_frozen BK279.out 13
          go_wp2
          repeat (go_quiet (fail); try go_wp2)
          go_meet
          case rel => exact ⟨_, (false), (by first | rfl | (simp; done) | (simp [*]; done)), H', ⟨by have := HK1.out; have := HJ2.out; have := HK3.out; first | omega | exact Nat.le_refl _⟩, ⟨qK BK279.out⟩, ⟨qB HB.out⟩⟩
        case rest =>
         clear HC15
         try clear c1
         try clear p2
         try clear q2
         try clear hx2
         try clear c4
         try clear c4b0
         try clear p6
         try clear c7
         try clear c8
         try clear c8b0
         try clear c9
         try clear c9b0
         try clear c10
         try clear c10b0
         try clear c10b1
         try clear c12
         try clear c12b0
         try clear c12b1
         try clear c16
         try clear c16b0
         try clear hcz11_0
         try clear hcz11_1
         try clear hcz11_10
         try clear hcz11_11
         try clear hcz11_12
         try clear hcz11_13
         try clear hcz11_2
         try clear hcz11_3
         try clear hcz11_4
         try clear hcz11_5
         try clear hcz11_6
         try clear hcz11_7
         try clear hcz11_8
         try clear hcz11_9
         try clear hcz13_0
         try clear hcz13_1
         try clear hcz13_10
         try clear hcz13_11
         try clear hcz13_12
         try clear hcz13_13
         try clear hcz13_2
         try clear hcz13_3
         try clear hcz13_4
         try clear hcz13_5
         try clear hcz13_6
         try clear hcz13_7
         try clear hcz13_8
         try clear hcz13_9
         try clear hcz14_0
         try clear hcz14_1
         try clear hcz14_10
         try clear hcz14_11
         try clear hcz14_12
         try clear hcz14_13
         try clear hcz14_2
         try clear hcz14_3
         try clear hcz14_4
         try clear hcz14_5
         try clear hcz14_6
         try clear hcz14_7
         try clear hcz14_8
         try clear hcz14_9
         try clear hcz17_0
         try clear hcz17_1
         try clear hcz17_10
         try clear hcz17_11
         try clear hcz17_12
         try clear hcz17_13
         try clear hcz17_2
         try clear hcz17_3
         try clear hcz17_4
         try clear hcz17_5
         try clear hcz17_6
         try clear hcz17_7
         try clear hcz17_8
         try clear hcz17_9
         try clear hcz18_0
         try clear hcz18_1
         try clear hcz18_10
         try clear hcz18_11
         try clear hcz18_12
         try clear hcz18_13
         try clear hcz18_2
         try clear hcz18_3
         try clear hcz18_4
         try clear hcz18_5
         try clear hcz18_6
         try clear hcz18_7
         try clear hcz18_8
         try clear hcz18_9
         try clear hcz5_0
         try clear hcz5_1
         try clear hcz5_10
         try clear hcz5_11
         try clear hcz5_12
         try clear hcz5_13
         try clear hcz5_2
         try clear hcz5_3
         try clear hcz5_4
         try clear hcz5_5
         try clear hcz5_6
         try clear hcz5_7
         try clear hcz5_8
         try clear hcz5_9
         try clear hcz6_0
         try clear hcz6_1
         try clear hcz6_10
         try clear hcz6_11
         try clear hcz6_12
         try clear hcz6_13
         try clear hcz6_2
         try clear hcz6_3
         try clear hcz6_4
         try clear hcz6_5
         try clear hcz6_6
         try clear hcz6_7
         try clear hcz6_8
         try clear hcz6_9
         try clear hfz11_0
         try clear hfz11_1
         try clear hfz11_10
         try clear hfz11_11
         try clear hfz11_12
         try clear hfz11_13
         try clear hfz11_2
         try clear hfz11_3
         try clear hfz11_4
         try clear hfz11_5
         try clear hfz11_6
         try clear hfz11_7
         try clear hfz11_8
         try clear hfz11_9
         try clear hfz13_0
         try clear hfz13_1
         try clear hfz13_10
         try clear hfz13_11
         try clear hfz13_12
         try clear hfz13_13
         try clear hfz13_2
         try clear hfz13_3
         try clear hfz13_4
         try clear hfz13_5
         try clear hfz13_6
         try clear hfz13_7
         try clear hfz13_8
         try clear hfz13_9
         try clear hfz14_0
         try clear hfz14_1
         try clear hfz14_10
         try clear hfz14_11
         try clear hfz14_12
         try clear hfz14_13
         try clear hfz14_2
         try clear hfz14_3
         try clear hfz14_4
         try clear hfz14_5
         try clear hfz14_6
         try clear hfz14_7
         try clear hfz14_8
         try clear hfz14_9
         try clear hfz17_0
         try clear hfz17_1
         try clear hfz17_10
         try clear hfz17_11
         try clear hfz17_12
         try clear hfz17_13
         try clear hfz17_2
         try clear hfz17_3
         try clear hfz17_4
         try clear hfz17_5
         try clear hfz17_6
         try clear hfz17_7
         try clear hfz17_8
         try clear hfz17_9
         try clear hfz18_0
         try clear hfz18_1
         try clear hfz18_10
         try clear hfz18_11
         try clear hfz18_12
         try clear hfz18_13
         try clear hfz18_2
         try clear hfz18_3
         try clear hfz18_4
         try clear hfz18_5
         try clear hfz18_6
         try clear hfz18_7
         try clear hfz18_8
         try clear hfz18_9
         try clear hfz5_0
         try clear hfz5_1
         try clear hfz5_10
         try clear hfz5_11
         try clear hfz5_12
         try clear hfz5_13
         try clear hfz5_2
         try clear hfz5_3
         try clear hfz5_4
         try clear hfz5_5
         try clear hfz5_6
         try clear hfz5_7
         try clear hfz5_8
         try clear hfz5_9
         try clear hfz6_0
         try clear hfz6_1
         try clear hfz6_10
         try clear hfz6_11
         try clear hfz6_12
         try clear hfz6_13
         try clear hfz6_2
         try clear hfz6_3
         try clear hfz6_4
         try clear hfz6_5
         try clear hfz6_6
         try clear hfz6_7
         try clear hfz6_8
         try clear hfz6_9
         try clear hx280_0
         try clear hx280_1
         try clear hx281_0
         try clear hx281_1
         try clear hx282_0
         try clear hx282_1
         try clear hx283_0
         try clear hx283_1
         try clear p2
         try clear p280
         try clear p281
         try clear p282
         try clear p283
         try clear p6
         try clear q2
         try clear q280
         try clear q281
         try clear q282
         try clear q283
         obtain ⟨kq, x60_14, rfl, HA, HJ14, BK279, HB⟩ := hcut
         cases kq with
         | zero => exact absurd HA.out (by simp [antipodelaw14_LightCmd.j3])
         | succ kj14 =>
          have H := HA.out
          clear HA
          simp only [antipodelaw14_LightCmd.j3] at H
          by_cases c19 : x60_14 = true
          ·subst c19
           have H1 : (if 0 ≤ x5_3 then (if x5_3 < (l0_13.length : Int) then (if (((rd_T67 l0_13 x5_3).f0).size : Int) > 8192 then (some false) else (if (((rd_T67 l0_13 x5_3).f2).size : Int) > 8192 then (some false) else (antipodelaw14_LightCmd.l1 kj14 (wrap64 ((wrap64 (x3_3 + (((rd_T67 l0_13 x5_3).f0).size : Int))) + (((rd_T67 l0_13 x5_3).f2).size : Int))) (wrap64 (x5_3 + 1)) a0_0 a0_1 a0_2 a0_3 a0_4 a0_5 a0_6 a0_7 a0_8 a0_9 a0_10 a0_11 l0_12 l0_13))) else (none)) else (none)) = some r := by rw [if_pos rfl] at H; exact H
           clear H
           have H := H1
           clear H1
           by_cases c20 : 0 ≤ x5_3
           ·rw [if_pos c20] at H
            have c20b0 : decide (0 ≤ x5_3) = true := decide_eq_true c20
            clear c20
            by_cases c21 : x5_3 < (l0_13.length : Int)
            ·rw [if_pos c21] at H
             have c21b0 : decide (x5_3 < (l0_13.length : Int)) = true := decide_eq_true c21
             clear c21
             by_cases c22 : (((rd_T67 l0_13 x5_3).f0).size : Int) > 8192
             ·rw [if_pos c22] at H
              have c22b0 : decide (8192 < (((rd_T67 l0_13 x5_3).f0).size : Int)) = true := decide_eq_true c22
              have c22b1 : decide (8192 < ((rd_T67 l0_13 x5_3).f0).size) = true := decide_eq_true (by omega)
              clear c22
              obtain rfl := Option.some.inj H
              have hcz23_0 : wc.cell? ⟨gb279, 0, none⟩ = some (.int .i64 a0_0) := (blk_cell BK279.out 0).trans rfl
              have hcz23_1 : wc.cell? ⟨gb279, 1, none⟩ = some (.int .i64 a0_1) := (blk_cell BK279.out 1).trans rfl
              have hcz23_2 : wc.cell? ⟨gb279, 2, none⟩ = some (.int .i64 a0_2) := (blk_cell BK279.out 2).trans rfl
              have hcz23_3 : wc.cell? ⟨gb279, 3, none⟩ = some (.int .i64 a0_3) := (blk_cell BK279.out 3).trans rfl
              have hcz23_4 : wc.cell? ⟨gb279, 4, none⟩ = some (.int .i64 a0_4) := (blk_cell BK279.out 4).trans rfl
              have hcz23_5 : wc.cell? ⟨gb279, 5, none⟩ = some (.int .i64 a0_5) := (blk_cell BK279.out 5).trans rfl
              have hcz23_6 : wc.cell? ⟨gb279, 6, none⟩ = some (.int .i64 a0_6) := (blk_cell BK279.out 6).trans rfl
              have hcz23_7 : wc.cell? ⟨gb279, 7, none⟩ = some (.int .i64 a0_7) := (blk_cell BK279.out 7).trans rfl
              have hcz23_8 : wc.cell? ⟨gb279, 8, none⟩ = some (.int .i64 a0_8) := (blk_cell BK279.out 8).trans rfl
              have hcz23_9 : wc.cell? ⟨gb279, 9, none⟩ = some (.int .i64 a0_9) := (blk_cell BK279.out 9).trans rfl
              have hcz23_10 : wc.cell? ⟨gb279, 10, none⟩ = some (.int .i64 a0_10) := (blk_cell BK279.out 10).trans rfl
              have hcz23_11 : wc.cell? ⟨gb279, 11, none⟩ = some (.bool a0_11) := (blk_cell BK279.out 11).trans rfl
              have hcz23_12 : wc.cell? ⟨gb279, 12, none⟩ = some (.slice A0_12 l0_12.length c0_12) := (blk_cell BK279.out 12).trans rfl
              have hcz23_13 : wc.cell? ⟨gb279, 13, none⟩ = some (.slice A0_13 l0_13.length c0_13) := (blk_cell BK279.out 13).trans rfl
              have hfz23_0 := blk_frozen BK279.out 0
              have hfz23_1 := blk_frozen BK279.out 1
              have hfz23_2 := blk_frozen BK279.out 2
              have hfz23_3 := blk_frozen BK279.out 3
              have hfz23_4 := blk_frozen BK279.out 4
              have hfz23_5 := blk_frozen BK279.out 5
              have hfz23_6 := blk_frozen BK279.out 6
              have hfz23_7 := blk_frozen BK279.out 7
              have hfz23_8 := blk_frozen BK279.out 8
              have hfz23_9 := blk_frozen BK279.out 9
              have hfz23_10 := blk_frozen BK279.out 10
              have hfz23_11 := blk_frozen BK279.out 11
              have hfz23_12 := blk_frozen BK279.out 12
              have hfz23_13 := blk_frozen BK279.out 13
              have p284 : 0 ≤ (x5_3 : Int) := of_decide_eq_true (by first | (with_reducible assumption) | assumption)
              have q284 : x5_3 < (l0_13.length : Int) := of_decide_eq_true (by first | (with_reducible assumption) | assumption)
              obtain ⟨ad284, e284, hx284_0, hx284_1, hx284_2⟩ := at_T67 HR0_13.out x5_3 p284 q284
              cases e284
              replace hx284_0 := (HB.out.cell (World.block_lt_of_cell? w _ hx284_0)).trans hx284_0
              replace hx284_1 := (HB.out.cell (World.block_lt_of_cell? w _ hx284_1)).trans hx284_1
              replace hx284_2 := (HB.out.cell (World.block_lt_of_cell? w _ hx284_2)).trans hx284_2
              replace p284 := eq_true p284
              replace q284 := eq_true q284
              go_wp2
              repeat (go_quiet (fail); try go_wp2)
              go_ret
              exact ⟨by first | rfl | (simp [errW_none, errW_some] <;> rfl) | (simp [*, errW_none, errW_some] <;> rfl), qB HB.out⟩
             ·rw [if_neg c22] at H
              have c22b0 : decide (8192 < (((rd_T67 l0_13 x5_3).f0).size : Int)) = false := decide_eq_false c22
              have c22b1 : decide (8192 < ((rd_T67 l0_13 x5_3).f0).size) = false := decide_eq_false (by omega)
              clear c22
              by_cases c24 : (((rd_T67 l0_13 x5_3).f2).size : Int) > 8192
              ·rw [if_pos c24] at H
               have c24b0 : decide (8192 < (((rd_T67 l0_13 x5_3).f2).size : Int)) = true := decide_eq_true c24
               have c24b1 : decide (8192 < ((rd_T67 l0_13 x5_3).f2).size) = true := decide_eq_true (by omega)
               clear c24
               obtain rfl := Option.some.inj H
               have hcz25_0 : wc.cell? ⟨gb279, 0, none⟩ = some (.int .i64 a0_0) := (blk_cell BK279.out 0).trans rfl
               have hcz25_1 : wc.cell? ⟨gb279, 1, none⟩ = some (.int .i64 a0_1) := (blk_cell BK279.out 1).trans rfl
               have hcz25_2 : wc.cell? ⟨gb279, 2, none⟩ = some (.int .i64 a0_2) := (blk_cell BK279.out 2).trans rfl
               have hcz25_3 : wc.cell? ⟨gb279, 3, none⟩ = some (.int .i64 a0_3) := (blk_cell BK279.out 3).trans rfl
               have hcz25_4 : wc.cell? ⟨gb279, 4, none⟩ = some (.int .i64 a0_4) := (blk_cell BK279.out 4).trans rfl
               have hcz25_5 : wc.cell? ⟨gb279, 5, none⟩ = some (.int .i64 a0_5) := (blk_cell BK279.out 5).trans rfl
               have hcz25_6 : wc.cell? ⟨gb279, 6, none⟩ = some (.int .i64 a0_6) := (blk_cell BK279.out 6).trans rfl
               have hcz25_7 : wc.cell? ⟨gb279, 7, none⟩ = some (.int .i64 a0_7) := (blk_cell BK279.out 7).trans rfl
               have hcz25_8 : wc.cell? ⟨gb279, 8, none⟩ = some (.int .i64 a0_8) := (blk_cell BK279.out 8).trans rfl
               have hcz25_9 : wc.cell? ⟨gb279, 9, none⟩ = some (.int .i64 a0_9) := (blk_cell BK279.out 9).trans rfl
               have hcz25_10 : wc.cell? ⟨gb279, 10, none⟩ = some (.int .i64 a0_10) := (blk_cell BK279.out 10).trans rfl
               have hcz25_11 : wc.cell? ⟨gb279, 11, none⟩ = some (.bool a0_11) := (blk_cell BK279.out 11).trans rfl
               have hcz25_12 : wc.cell? ⟨gb279, 12, none⟩ = some (.slice A0_12 l0_12.length c0_12) := (blk_cell BK279.out 12).trans rfl
               have hcz25_13 : wc.cell? ⟨gb279, 13, none⟩ = some (.slice A0_13 l0_13.length c0_13) := (blk_cell BK279.out 13).trans rfl
               have hfz25_0 := blk_frozen BK279.out 0
               have hfz25_1 := blk_frozen BK279.out 1
               have hfz25_2 := blk_frozen BK279.out 2
               have hfz25_3 := blk_frozen BK279.out 3
               have hfz25_4 := blk_frozen BK279.out 4
               have hfz25_5 := blk_frozen BK279.out 5
               have hfz25_6 := blk_frozen BK279.out 6
               have hfz25_7 := blk_frozen BK279.out 7
               have hfz25_8 := blk_frozen BK279.out 8
               have hfz25_9 := blk_frozen BK279.out 9
               have hfz25_10 := blk_frozen BK279.out 10
               have hfz25_11 := blk_frozen BK279.out 11
               have hfz25_12 := blk_frozen BK279.out 12
               have hfz25_13 := blk_frozen BK279.out 13
               have p284 : 0 ≤ (x5_3 : Int) := of_decide_eq_true (by first | (with_reducible assumption) | assumption)
               have q284 : x5_3 < (l0_13.length : Int) := of_decide_eq_true (by first | (with_reducible assumption) | assumption)
               obtain ⟨ad284, e284, hx284_0, hx284_1, hx284_2⟩ := at_T67 HR0_13.out x5_3 p284 q284
               cases e284
               replace hx284_0 := (HB.out.cell (World.block_lt_of_cell? w _ hx284_0)).trans hx284_0
               replace hx284_1 := (HB.out.cell (World.block_lt_of_cell? w _ hx284_1)).trans hx284_1
               replace hx284_2 := (HB.out.cell (World.block_lt_of_cell? w _ hx284_2)).trans hx284_2
               replace p284 := eq_true p284
               replace q284 := eq_true q284
               have p285 : 0 ≤ (x5_3 : Int) := of_decide_eq_true (by first | (with_reducible assumption) | assumption)
               have q285 : x5_3 < (l0_13.length : Int) := of_decide_eq_true (by first | (with_reducible assumption) | assumption)
               obtain ⟨ad285, e285, hx285_0, hx285_1, hx285_2⟩ := at_T67 HR0_13.out x5_3 p285 q285
               obtain rfl : ad284 = ad285 := (by injection e285)
               replace hx285_0 := (HB.out.cell (World.block_lt_of_cell? w _ hx285_0)).trans hx285_0
               replace hx285_1 := (HB.out.cell (World.block_lt_of_cell? w _ hx285_1)).trans hx285_1
               replace hx285_2 := (HB.out.cell (World.block_lt_of_cell? w _ hx285_2)).trans hx285_2
               replace p285 := eq_true p285
               replace q285 := eq_true q285
               go_wp2
               repeat (go_quiet (fail); try go_wp2)
               go_ret
               exact ⟨by first | rfl | (simp [errW_none, errW_some] <;> rfl) | (simp [*, errW_none, errW_some] <;> rfl), qB HB.out⟩
              ·rw [if_neg c24] at H
               have c24b0 : decide (8192 < (((rd_T67 l0_13 x5_3).f2).size : Int)) = false := decide_eq_false c24
               have c24b1 : decide (8192 < ((rd_T67 l0_13 x5_3).f2).size) = false := decide_eq_false (by omega)
               clear c24
               have H' := Aside0.mk H
               clear H
               have hcz26_0 : wc.cell? ⟨gb279, 0, none⟩ = some (.int .i64 a0_0) := (blk_cell BK279.out 0).trans rfl
               have hcz26_1 : wc.cell? ⟨gb279, 1, none⟩ = some (.int .i64 a0_1) := (blk_cell BK279.out 1).trans rfl
               have hcz26_2 : wc.cell? ⟨gb279, 2, none⟩ = some (.int .i64 a0_2) := (blk_cell BK279.out 2).trans rfl
               have hcz26_3 : wc.cell? ⟨gb279, 3, none⟩ = some (.int .i64 a0_3) := (blk_cell BK279.out 3).trans rfl
               have hcz26_4 : wc.cell? ⟨gb279, 4, none⟩ = some (.int .i64 a0_4) := (blk_cell BK279.out 4).trans rfl
               have hcz26_5 : wc.cell? ⟨gb279, 5, none⟩ = some (.int .i64 a0_5) := (blk_cell BK279.out 5).trans rfl
               have hcz26_6 : wc.cell? ⟨gb279, 6, none⟩ = some (.int .i64 a0_6) := (blk_cell BK279.out 6).trans rfl
               have hcz26_7 : wc.cell? ⟨gb279, 7, none⟩ = some (.int .i64 a0_7) := (blk_cell BK279.out 7).trans rfl
               have hcz26_8 : wc.cell? ⟨gb279, 8, none⟩ = some (.int .i64 a0_8) := (blk_cell BK279.out 8).trans rfl
               have hcz26_9 : wc.cell? ⟨gb279, 9, none⟩ = some (.int .i64 a0_9) := (blk_cell BK279.out 9).trans rfl
               have hcz26_10 : wc.cell? ⟨gb279, 10, none⟩ = some (.int .i64 a0_10) := (blk_cell BK279.out 10).trans rfl
               have hcz26_11 : wc.cell? ⟨gb279, 11, none⟩ = some (.bool a0_11) := (blk_cell BK279.out 11).trans rfl
               have hcz26_12 : wc.cell? ⟨gb279, 12, none⟩ = some (.slice A0_12 l0_12.length c0_12) := (blk_cell BK279.out 12).trans rfl
               have hcz26_13 : wc.cell? ⟨gb279, 13, none⟩ = some (.slice A0_13 l0_13.length c0_13) := (blk_cell BK279.out 13).trans rfl
               have hfz26_0 := blk_frozen BK279.out 0
               have hfz26_1 := blk_frozen BK279.out 1
               have hfz26_2 := blk_frozen BK279.out 2
               have hfz26_3 := blk_frozen BK279.out 3
               have hfz26_4 := blk_frozen BK279.out 4
               have hfz26_5 := blk_frozen BK279.out 5
               have hfz26_6 := blk_frozen BK279.out 6
               have hfz26_7 := blk_frozen BK279.out 7
               have hfz26_8 := blk_frozen BK279.out 8
               have hfz26_9 := blk_frozen BK279.out 9
               have hfz26_10 := blk_frozen BK279.out 10
               have hfz26_11 := blk_frozen BK279.out 11
               have hfz26_12 := blk_frozen BK279.out 12
               have hfz26_13 := blk_frozen BK279.out 13
               have p284 : 0 ≤ (x5_3 : Int) := of_decide_eq_true (by first | (with_reducible assumption) | assumption)
               have q284 : x5_3 < (l0_13.length : Int) := of_decide_eq_true (by first | (with_reducible assumption) | assumption)
               obtain ⟨ad284, e284, hx284_0, hx284_1, hx284_2⟩ := at_T67 HR0_13.out x5_3 p284 q284
               cases e284
               replace hx284_0 := (HB.out.cell (World.block_lt_of_cell? w _ hx284_0)).trans hx284_0
               replace hx284_1 := (HB.out.cell (World.block_lt_of_cell? w _ hx284_1)).trans hx284_1
               replace hx284_2 := (HB.out.cell (World.block_lt_of_cell? w _ hx284_2)).trans hx284_2
               replace p284 := eq_true p284
               replace q284 := eq_true q284
               have p285 : 0 ≤ (x5_3 : Int) := of_decide_eq_true (by first | (with_reducible assumption) | assumption)
               have q285 : x5_3 < (l0_13.length : Int) := of_decide_eq_true (by first | (with_reducible assumption) | assumption)
               obtain ⟨ad285, e285, hx285_0, hx285_1, hx285_2⟩ := at_T67 HR0_13.out x5_3 p285 q285
               obtain rfl : ad284 = ad285 := (by injection e285)
               replace hx285_0 := (HB.out.cell (World.block_lt_of_cell? w _ hx285_0)).trans hx285_0
               replace hx285_1 := (HB.out.cell (World.block_lt_of_cell? w _ hx285_1)).trans hx285_1
               replace hx285_2 := (HB.out.cell (World.block_lt_of_cell? w _ hx285_2)).trans hx285_2
               replace p285 := eq_true p285
               replace q285 := eq_true q285
               have p286 : 0 ≤ (x5_3 : Int) := of_decide_eq_true (by first | (with_reducible assumption) | assumption)
               have q286 : x5_3 < (l0_13.length : Int) := of_decide_eq_true (by first | (with_reducible assumption) | assumption)
               obtain ⟨ad286, e286, hx286_0, hx286_1, hx286_2⟩ := at_T67 HR0_13.out x5_3 p286 q286
               obtain rfl : ad284 = ad286 := (by injection e286)
               replace hx286_0 := (HB.out.cell (World.block_lt_of_cell? w _ hx286_0)).trans hx286_0
               replace hx286_1 := (HB.out.cell (World.block_lt_of_cell? w _ hx286_1)).trans hx286_1
               replace hx286_2 := (HB.out.cell (World.block_lt_of_cell? w _ hx286_2)).trans hx286_2
               replace p286 := eq_true p286
               replace q286 := eq_true q286
               have p287 : 0 ≤ (x5_3 : Int) := of_decide_eq_true (by first | (with_reducible assumption) | assumption)
               have q287 : x5_3 < (l0_13.length : Int) := of_decide_eq_true (by first | (with_reducible assumption) | assumption)
               obtain ⟨ad287, e287, hx287_0, hx287_1, hx287_2⟩ := at_T67 HR0_13.out x5_3 p287 q287
               obtain rfl : ad284 = ad287 := (by injection e287)
               replace hx287_0 := (HB.out.cell (World.block_lt_of_cell? w _ hx287_0)).trans hx287_0
               replace hx287_1 := (HB.out.cell (World.block_lt_of_cell? w _ hx287_1)).trans hx287_1
               replace hx287_2 := (HB.out.cell (World.block_lt_of_cell? w _ hx287_2)).trans hx287_2
               replace p287 := eq_true p287
               replace q287 := eq_true q287
               go_wp2
               repeat (go_quiet (fail); try go_wp2)
               go_roundg kj14
               case measure => have := HK1.out; have := HJ2.out; have := HK3.out; have := HJ14.out; omega
               case rel => exact ⟨(wrap64 ((wrap64 (x3_3 + (((rd_T67 l0_13 x5_3).f0).size : Int))) + (((rd_T67 l0_13 x5_3).f2).size : Int))), (wrap64 (x5_3 + 1)), (by first | rfl | (simp; done) | (simp [*]; done)), (by first | rfl | (simp; done) | (simp [*]; done)), H', ⟨by have := HK1.out; have := HJ2.out; have := HK3.out; have := HJ14.out; omega⟩, ⟨qK BK279.out⟩, ⟨qB HB.out⟩⟩
            ·rw [if_neg c21] at H
             exact absurd H (by simp)
           ·rw [if_neg c20] at H
            exact absurd H (by simp)
          ·replace c19 := Bool.eq_false_iff.mpr c19
           subst c19
           have H1 : (if x3_3 < 8192 then (if (l0_12.length : Int) < 100 then (some (decide ((l0_13.length : Int) < 100))) else (some false)) else (some false)) = some r := by rw [if_neg (show ¬ (false = true) by decide)] at H; exact H
           clear H
           have H := H1
           clear H1
           by_cases c27 : x3_3 < 8192
           ·rw [if_pos c27] at H
            have c27b0 : decide (x3_3 < 8192) = true := decide_eq_true c27
            clear c27
            by_cases c28 : (l0_12.length : Int) < 100
            ·rw [if_pos c28] at H
             have c28b0 : decide ((l0_12.length : Int) < 100) = true := decide_eq_true c28
             have c28b1 : decide (l0_12.length < 100) = true := decide_eq_true (by omega)
             clear c28
             obtain rfl := Option.some.inj H
             have hcz29_0 : wc.cell? ⟨gb279, 0, none⟩ = some (.int .i64 a0_0) := (blk_cell BK279.out 0).trans rfl
             have hcz29_1 : wc.cell? ⟨gb279, 1, none⟩ = some (.int .i64 a0_1) := (blk_cell BK279.out 1).trans rfl
             have hcz29_2 : wc.cell? ⟨gb279, 2, none⟩ = some (.int .i64 a0_2) := (blk_cell BK279.out 2).trans rfl
             have hcz29_3 : wc.cell? ⟨gb279, 3, none⟩ = some (.int .i64 a0_3) := (blk_cell BK279.out 3).trans rfl
             have hcz29_4 : wc.cell? ⟨gb279, 4, none⟩ = some (.int .i64 a0_4) := (blk_cell BK279.out 4).trans rfl
             have hcz29_5 : wc.cell? ⟨gb279, 5, none⟩ = some (.int .i64 a0_5) := (blk_cell BK279.out 5).trans rfl
             have hcz29_6 : wc.cell? ⟨gb279, 6, none⟩ = some (.int .i64 a0_6) := (blk_cell BK279.out 6).trans rfl
             have hcz29_7 : wc.cell? ⟨gb279, 7, none⟩ = some (.int .i64 a0_7) := (blk_cell BK279.out 7).trans rfl
             have hcz29_8 : wc.cell? ⟨gb279, 8, none⟩ = some (.int .i64 a0_8) := (blk_cell BK279.out 8).trans rfl
             have hcz29_9 : wc.cell? ⟨gb279, 9, none⟩ = some (.int .i64 a0_9) := (blk_cell BK279.out 9).trans rfl
             have hcz29_10 : wc.cell? ⟨gb279, 10, none⟩ = some (.int .i64 a0_10) := (blk_cell BK279.out 10).trans rfl
             have hcz29_11 : wc.cell? ⟨gb279, 11, none⟩ = some (.bool a0_11) := (blk_cell BK279.out 11).trans rfl
             have hcz29_12 : wc.cell? ⟨gb279, 12, none⟩ = some (.slice A0_12 l0_12.length c0_12) := (blk_cell BK279.out 12).trans rfl
             have hcz29_13 : wc.cell? ⟨gb279, 13, none⟩ = some (.slice A0_13 l0_13.length c0_13) := (blk_cell BK279.out 13).trans rfl
             have hfz29_0 := blk_frozen BK279.out 0
             have hfz29_1 := blk_frozen BK279.out 1
             have hfz29_2 := blk_frozen BK279.out 2
             have hfz29_3 := blk_frozen BK279.out 3
             have hfz29_4 := blk_frozen BK279.out 4
             have hfz29_5 := blk_frozen BK279.out 5
             have hfz29_6 := blk_frozen BK279.out 6
             have hfz29_7 := blk_frozen BK279.out 7
             have hfz29_8 := blk_frozen BK279.out 8
             have hfz29_9 := blk_frozen BK279.out 9
             have hfz29_10 := blk_frozen BK279.out 10
             have hfz29_11 := blk_frozen BK279.out 11
             have hfz29_12 := blk_frozen BK279.out 12
             have hfz29_13 := blk_frozen BK279.out 13
             go_wp2
             repeat (go_quiet (fail); try go_wp2)
             go_ret
             exact ⟨by first | rfl | (simp [errW_none, errW_some] <;> rfl) | (simp [*, errW_none, errW_some] <;> rfl), qB HB.out⟩
            ·rw [if_neg c28] at H
             have c28b0 : decide ((l0_12.length : Int) < 100) = false := decide_eq_false c28
             have c28b1 : decide (l0_12.length < 100) = false := decide_eq_false (by omega)
             clear c28
             obtain rfl := Option.some.inj H
             have hcz30_0 : wc.cell? ⟨gb279, 0, none⟩ = some (.int .i64 a0_0) := (blk_cell BK279.out 0).trans rfl
             have hcz30_1 : wc.cell? ⟨gb279, 1, none⟩ = some (.int .i64 a0_1) := (blk_cell BK279.out 1).trans rfl
             have hcz30_2 : wc.cell? ⟨gb279, 2, none⟩ = some (.int .i64 a0_2) := (blk_cell BK279.out 2).trans rfl
             have hcz30_3 : wc.cell? ⟨gb279, 3, none⟩ = some (.int .i64 a0_3) := (blk_cell BK279.out 3).trans rfl
             have hcz30_4 : wc.cell? ⟨gb279, 4, none⟩ = some (.int .i64 a0_4) := (blk_cell BK279.out 4).trans rfl
             have hcz30_5 : wc.cell? ⟨gb279, 5, none⟩ = some (.int .i64 a0_5) := (blk_cell BK279.out 5).trans rfl
             have hcz30_6 : wc.cell? ⟨gb279, 6, none⟩ = some (.int .i64 a0_6) := (blk_cell BK279.out 6).trans rfl
             have hcz30_7 : wc.cell? ⟨gb279, 7, none⟩ = some (.int .i64 a0_7) := (blk_cell BK279.out 7).trans rfl
             have hcz30_8 : wc.cell? ⟨gb279, 8, none⟩ = some (.int .i64 a0_8) := (blk_cell BK279.out 8).trans rfl
             have hcz30_9 : wc.cell? ⟨gb279, 9, none⟩ = some (.int .i64 a0_9) := (blk_cell BK279.out 9).trans rfl
             have hcz30_10 : wc.cell? ⟨gb279, 10, none⟩ = some (.int .i64 a0_10) := (blk_cell BK279.out 10).trans rfl
             have hcz30_11 : wc.cell? ⟨gb279, 11, none⟩ = some (.bool a0_11) := (blk_cell BK279.out 11).trans rfl
             have hcz30_12 : wc.cell? ⟨gb279, 12, none⟩ = some (.slice A0_12 l0_12.length c0_12) := (blk_cell BK279.out 12).trans rfl
             have hcz30_13 : wc.cell? ⟨gb279, 13, none⟩ = some (.slice A0_13 l0_13.length c0_13) := (blk_cell BK279.out 13).trans rfl
             have hfz30_0 := blk_frozen BK279.out 0
             have hfz30_1 := blk_frozen BK279.out 1
             have hfz30_2 := blk_frozen BK279.out 2
             have hfz30_3 := blk_frozen BK279.out 3
             have hfz30_4 := blk_frozen BK279.out 4
             have hfz30_5 := blk_frozen BK279.out 5
             have hfz30_6 := blk_frozen BK279.out 6
             have hfz30_7 := blk_frozen BK279.out 7
             have hfz30_8 := blk_frozen BK279.out 8
             have hfz30_9 := blk_frozen BK279.out 9
             have hfz30_10 := blk_frozen BK279.out 10
             have hfz30_11 := blk_frozen BK279.out 11
             have hfz30_12 := blk_frozen BK279.out 12
             have hfz30_13 := blk_frozen BK279.out 13
             go_wp2
             repeat (go_quiet (fail); try go_wp2)
             go_ret
             exact ⟨by first | rfl | (simp [errW_none, errW_some] <;> rfl) | (simp [*, errW_none, errW_some] <;> rfl), qB HB.out⟩
           ·rw [if_neg c27] at H
            have c27b0 : decide (x3_3 < 8192) = false := decide_eq_false c27
            clear c27
            obtain rfl := Option.some.inj H
            go_wp2
            repeat (go_quiet (fail); try go_wp2)
            go_ret
            exact ⟨by first | rfl | (simp [errW_none, errW_some] <;> rfl) | (simp [*, errW_none, errW_some] <;> rfl), qB HB.out⟩
end Go.Proofs.Ytjfgapaohldbkaa.QA


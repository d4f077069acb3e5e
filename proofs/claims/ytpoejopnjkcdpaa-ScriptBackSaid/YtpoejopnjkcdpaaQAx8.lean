/- Written by a program of this session (wip/myprint.sh): contracts of Go functions of the translation: each call comes to what the Lean function of its name says. -/
import Derived.Test.YtpoejopnjkcdpaaQAx0
import Derived.Test.YtpoejopnjkcdpaaQAx7
namespace Go.Proofs.Ytpoejopnjkcdpaa.QA
open Go.RowKit Go.Proofs.YtpoejopnjkcdpaaW.PrintWords Go.Proofs.YtpoejopnjkcdpaaW.PrintLast Go.Proofs.YtpoejopnjkcdpaaW.PrintMore
attribute [local go_sem] max2_int min2_int max_two min_two max_three min_three max_four min_four   -- for this text's walks alone
set_option linter.unusedVariables false
set_option linter.unusedSimpArgs false

/-! ### antipoderef29_SameAll: function 12 -/
def antipoderef29_SameAll.l0 : Nat → List (S41) → List (S41) → Int → Option (Bool)
 | 0, _, _, _ => none
 | k + 1, x0, x1, x5 => if x5 < (x0.length : Int) then (if 0 ≤ x5 then (if x5 < (x1.length : Int) then ((antipoderef29_Same.f k ((rd_T41 x0 x5).f0) ((rd_T41 x0 x5).f1) ((rd_T41 x0 x5).f2) ((rd_T41 x0 x5).f3) ((rd_T41 x0 x5).f4) ((rd_T41 x0 x5).f5) ((rd_T41 x0 x5).f6.f0) ((rd_T41 x0 x5).f6.f1) ((rd_T41 x0 x5).f6.f2) ((rd_T41 x0 x5).f6.f3) ((rd_T41 x0 x5).f6.f4) ((rd_T41 x1 x5).f0) ((rd_T41 x1 x5).f1) ((rd_T41 x1 x5).f2) ((rd_T41 x1 x5).f3) ((rd_T41 x1 x5).f4) ((rd_T41 x1 x5).f5) ((rd_T41 x1 x5).f6.f0) ((rd_T41 x1 x5).f6.f1) ((rd_T41 x1 x5).f6.f2) ((rd_T41 x1 x5).f6.f3) ((rd_T41 x1 x5).f6.f4)).bind fun t188 => (if t188 = true then (antipoderef29_SameAll.l0 k x0 x1 (wrap64 (x5 + 1))) else (some false))) else (none)) else (none)) else (some true)
def antipoderef29_SameAll.f (k : Nat) (l0 : List (S41)) (l1 : List (S41)) : Option (Bool) := if (l0.length : Int) = (l1.length : Int) then (antipoderef29_SameAll.l0 k l0 l1 0) else (some false)
theorem antipoderef29_SameAll.mono_l : ∀ k, (∀ y0 y1 y2, LeO (antipoderef29_SameAll.l0 k y0 y1 y2) (antipoderef29_SameAll.l0 (k + 1) y0 y1 y2))
 | 0 => fun _ _ _ r h => by simp [antipoderef29_SameAll.l0] at h
 | k + 1 => by
  have ih0 := antipoderef29_SameAll.mono_l k
  ·intro y0 y1 y2
   unfold antipoderef29_SameAll.l0
   repeat' first
   | (with_reducible exact ih0 _ _ _)
   | (with_reducible exact antipoderef29_Same.mono _ _ _ _ _ _ _ _ _ _ _ _ _ _ _ _ _ _ _ _ _ _ _)
   | (with_reducible exact LeO.refl _)
   | (with_reducible exact LeO.none _)
   | (with_reducible refine LeO.ite ?_ ?_)
   | (with_reducible refine LeO.bind ?_ (fun _ => ?_))
   | exact ih0 _ _ _
   | exact antipoderef29_Same.mono _ _ _ _ _ _ _ _ _ _ _ _ _ _ _ _ _ _ _ _ _ _ _
   | exact LeO.none _
   | refine LeO.ite ?_ ?_
   | refine LeO.bind ?_ (fun _ => ?_)
theorem antipoderef29_SameAll.mono : ∀ a0 a1 k, LeO (antipoderef29_SameAll.f k a0 a1) (antipoderef29_SameAll.f (k + 1) a0 a1) := by
 intro a0 a1 k
 have ih0 := antipoderef29_SameAll.mono_l k
 unfold antipoderef29_SameAll.f
 repeat' first
   | (with_reducible exact ih0 _ _ _)
   | (with_reducible exact antipoderef29_Same.mono _ _ _ _ _ _ _ _ _ _ _ _ _ _ _ _ _ _ _ _ _ _ _)
   | (with_reducible exact LeO.refl _)
   | (with_reducible exact LeO.none _)
   | (with_reducible refine LeO.ite ?_ ?_)
   | (with_reducible refine LeO.bind ?_ (fun _ => ?_))
   | exact ih0 _ _ _
   | exact antipoderef29_Same.mono _ _ _ _ _ _ _ _ _ _ _ _ _ _ _ _ _ _ _ _ _ _ _
   | exact LeO.none _
   | refine LeO.ite ?_ ?_
   | refine LeO.bind ?_ (fun _ => ?_)
def antipoderef29_SameAll.T6 : Bool × List (List Nat × List Nat) := (true, [([], []), ([], []), ([0, 1], [0, 1]), ([2], [2]), ([], []), ([], []), ([4, 5], [4, 5]), ([6], [6]), ([3, 7], [3, 7]), ([8], [8])])
def antipoderef29_SameAll.B6 : List Nat := [0, 0, 3, 7, 0, 0, 48, 112, 255, 511]
theorem antipoderef29_SameAll.tab6 : rtab .any (opsOf Try.f12 6) = antipoderef29_SameAll.T6 := by kernel_rfl
theorem antipoderef29_SameAll.bits6 : waitsOk antipoderef29_SameAll.T6.2 antipoderef29_SameAll.B6 = true := by kernel_rfl
set_option maxHeartbeats 8000000 in
set_option maxRecDepth 100000 in
theorem antipoderef29_SameAll.calls (k : Nat) (A0 : Option Addr) (c0 : Nat) (l0 : List (S41)) (A1 : Option Addr) (c1 : Nat) (l1 : List (S41)) (r : Bool) (w : World) (hr0 : Kd.C k41 w A0 l0.length l0) (hc0 : l0.length ≤ c0) (hr1 : Kd.C k41 w A1 l1.length l1) (hc1 : l1.length ≤ c1) (h : antipoderef29_SameAll.f k l0 l1 = some r) :
  Calls Try.prog 12 #[.slice A0 l0.length c0, .slice A1 l1.length c1] w fun e w' => e = .returned (.bool r) ∧ Below w.heap.size w w' := by
 have hu41 := Try.underlying41
 have HR0 := Aside0.mk hr0
 have HC0 := Aside0.mk hc0
 clear hr0 hc0
 have HR1 := Aside0.mk hr1
 have HC1 := Aside0.mk hc1
 clear hr1 hc1
 have HB := Aside0.mk (Below.refl w.heap.size w)
 have H : (if (l0.length : Int) = (l1.length : Int) then (antipoderef29_SameAll.l0 k l0 l1 0) else (some false)) = some r := h
 clear h
 by_cases c3 : (l0.length : Int) = (l1.length : Int)
 ·rw [if_pos c3] at H
  have c3b0 : ((l0.length : Int) == (l1.length : Int)) = true := beq_iff_eq.mpr c3
  have c3b1 : ((l0.length : Int) != (l1.length : Int)) = false := bne_eq_false_iff_eq.mpr c3
  have c3b2 : (l0.length == l1.length) = true := by first | simpa using c3 | (simp at c3 ⊢; omega)
  clear c3
  have H' := Aside0.mk H
  clear H
  go_enter Try.func12, Try.ntmps12
  go_wp2
  go_loopg [5] k (fun kq v5 w' => ∃ (x5_1 : Int), v5 = .int .i64 x5_1 ∧ Aside0 (antipoderef29_SameAll.l0 kq l0 l1 x5_1 = some r) ∧ Aside0 (kq ≤ k) ∧ Aside0 (Below w.heap.size w w'))
  case atStart => exact ⟨(0), (by first | rfl | (simp; done) | (simp [*]; done)), H', ⟨Nat.le_refl _⟩, ⟨by repeat (first | (with_reducible first | exact HB.out | apply below_alloc | apply pw_below_drewN | apply below_drew1) | exact HB.out)⟩⟩
  case round =>
   clear H'
   try clear c1
   try clear p2
   try clear c3
   try clear c3b0
   try clear c3b1
   try clear c3b2
   obtain ⟨x5_1, rfl, HA, HK1, HB⟩ := hrel
   cases gk with
   | zero => exact absurd HA.out (by simp [antipoderef29_SameAll.l0])
   | succ k1 =>
    have H := HA.out
    clear HA
    simp only [antipoderef29_SameAll.l0] at H
    by_cases c4 : x5_1 < (l0.length : Int)
    ·rw [if_pos c4] at H
     have c4b0 : decide (x5_1 < (l0.length : Int)) = true := decide_eq_true c4
     clear c4
     by_cases c5 : 0 ≤ x5_1
     ·rw [if_pos c5] at H
      have c5b0 : decide (0 ≤ x5_1) = true := decide_eq_true c5
      clear c5
      by_cases c6 : x5_1 < (l1.length : Int)
      ·rw [if_pos c6] at H
       have c6b0 : decide (x5_1 < (l1.length : Int)) = true := decide_eq_true c6
       clear c6
       replace H := Option.bind_eq_some_iff.mp H
       obtain ⟨t188, A70, H⟩ := H
       replace H : (if t188 = true then (antipoderef29_SameAll.l0 k1 l0 l1 (wrap64 (x5_1 + 1))) else (some false)) = some r := H
       have A7 := Aside0.mk A70
       clear A70
       by_cases c8 : t188 = true
       ·subst c8
        have H1 : (antipoderef29_SameAll.l0 k1 l0 l1 (wrap64 (x5_1 + 1))) = some r := by rw [if_pos rfl] at H; exact H
        clear H
        have H := H1
        clear H1
        have H' := Aside0.mk H
        clear H
        try go_wp2
        have n0_ := Aside0.mk (below_drew1 HB.out)
        clear HB
        have HB := n0_
        clear n0_
        have p186 : 0 ≤ (x5_1 : Int) := of_decide_eq_true (by first | (with_reducible assumption) | assumption)
        have q186 : x5_1 < (l0.length : Int) := of_decide_eq_true (by first | (with_reducible assumption) | assumption)
        obtain ⟨ad186, A186_5, c186_5, e186, hx186_0, hx186_1, hx186_2, hx186_3, hx186_4, hx186_5, hx186_6, hx186_7, hx186_8, hx186_9, hx186_10, hl186_5, hi186_5⟩ := at_T41 HR0.out x5_1 p186 q186
        have hw186_10 := hx186_10
        have hw186_9 := hx186_9
        have hw186_8 := hx186_8
        have hw186_7 := hx186_7
        have hw186_6 := hx186_6
        have hw186_5 := hx186_5
        have hw186_4 := hx186_4
        have hw186_3 := hx186_3
        have hw186_2 := hx186_2
        have hw186_1 := hx186_1
        have hw186_0 := hx186_0
        cases e186
        replace hx186_0 := (HB.out.cell (World.block_lt_of_cell? w _ hx186_0)).trans hx186_0
        replace hx186_1 := (HB.out.cell (World.block_lt_of_cell? w _ hx186_1)).trans hx186_1
        replace hx186_2 := (HB.out.cell (World.block_lt_of_cell? w _ hx186_2)).trans hx186_2
        replace hx186_3 := (HB.out.cell (World.block_lt_of_cell? w _ hx186_3)).trans hx186_3
        replace hx186_4 := (HB.out.cell (World.block_lt_of_cell? w _ hx186_4)).trans hx186_4
        replace hx186_5 := (HB.out.cell (World.block_lt_of_cell? w _ hx186_5)).trans hx186_5
        replace hx186_6 := (HB.out.cell (World.block_lt_of_cell? w _ hx186_6)).trans hx186_6
        replace hx186_7 := (HB.out.cell (World.block_lt_of_cell? w _ hx186_7)).trans hx186_7
        replace hx186_8 := (HB.out.cell (World.block_lt_of_cell? w _ hx186_8)).trans hx186_8
        replace hx186_9 := (HB.out.cell (World.block_lt_of_cell? w _ hx186_9)).trans hx186_9
        replace hx186_10 := (HB.out.cell (World.block_lt_of_cell? w _ hx186_10)).trans hx186_10
        have HR186_5 := Aside0.mk hi186_5
        have HC186_5 := Aside0.mk hl186_5
        clear hi186_5 hl186_5
        replace p186 := eq_true p186
        replace q186 := eq_true q186
        have p187 : 0 ≤ (x5_1 : Int) := of_decide_eq_true (by first | (with_reducible assumption) | assumption)
        have q187 : x5_1 < (l1.length : Int) := of_decide_eq_true (by first | (with_reducible assumption) | assumption)
        obtain ⟨ad187, A187_5, c187_5, e187, hx187_0, hx187_1, hx187_2, hx187_3, hx187_4, hx187_5, hx187_6, hx187_7, hx187_8, hx187_9, hx187_10, hl187_5, hi187_5⟩ := at_T41 HR1.out x5_1 p187 q187
        have hw187_10 := hx187_10
        have hw187_9 := hx187_9
        have hw187_8 := hx187_8
        have hw187_7 := hx187_7
        have hw187_6 := hx187_6
        have hw187_5 := hx187_5
        have hw187_4 := hx187_4
        have hw187_3 := hx187_3
        have hw187_2 := hx187_2
        have hw187_1 := hx187_1
        have hw187_0 := hx187_0
        cases e187
        replace hx187_0 := (HB.out.cell (World.block_lt_of_cell? w _ hx187_0)).trans hx187_0
        replace hx187_1 := (HB.out.cell (World.block_lt_of_cell? w _ hx187_1)).trans hx187_1
        replace hx187_2 := (HB.out.cell (World.block_lt_of_cell? w _ hx187_2)).trans hx187_2
        replace hx187_3 := (HB.out.cell (World.block_lt_of_cell? w _ hx187_3)).trans hx187_3
        replace hx187_4 := (HB.out.cell (World.block_lt_of_cell? w _ hx187_4)).trans hx187_4
        replace hx187_5 := (HB.out.cell (World.block_lt_of_cell? w _ hx187_5)).trans hx187_5
        replace hx187_6 := (HB.out.cell (World.block_lt_of_cell? w _ hx187_6)).trans hx187_6
        replace hx187_7 := (HB.out.cell (World.block_lt_of_cell? w _ hx187_7)).trans hx187_7
        replace hx187_8 := (HB.out.cell (World.block_lt_of_cell? w _ hx187_8)).trans hx187_8
        replace hx187_9 := (HB.out.cell (World.block_lt_of_cell? w _ hx187_9)).trans hx187_9
        replace hx187_10 := (HB.out.cell (World.block_lt_of_cell? w _ hx187_10)).trans hx187_10
        have HR187_5 := Aside0.mk hi187_5
        have HC187_5 := Aside0.mk hl187_5
        clear hi187_5 hl187_5
        replace p187 := eq_true p187
        replace q187 := eq_true q187
        refine start_ (n := 10) (S := fun w' => w'.cell? (ad186.add ((x5_1).toNat * 11)) = some (.int .i64 ((rd_T41 l0 x5_1).f0)) ∧ w'.cell? ⟨(ad186.add ((x5_1).toNat * 11)).block, (ad186.add ((x5_1).toNat * 11)).off + 1, none⟩ = some (.int .i64 ((rd_T41 l0 x5_1).f1)) ∧ w'.cell? ⟨(ad186.add ((x5_1).toNat * 11)).block, (ad186.add ((x5_1).toNat * 11)).off + 2, none⟩ = some (.int .i64 ((rd_T41 l0 x5_1).f2)) ∧ w'.cell? ⟨(ad186.add ((x5_1).toNat * 11)).block, (ad186.add ((x5_1).toNat * 11)).off + 3, none⟩ = some (.int .i64 ((rd_T41 l0 x5_1).f3)) ∧ w'.cell? ⟨(ad186.add ((x5_1).toNat * 11)).block, (ad186.add ((x5_1).toNat * 11)).off + 4, none⟩ = some (.string ((rd_T41 l0 x5_1).f4)) ∧ w'.cell? ⟨(ad186.add ((x5_1).toNat * 11)).block, (ad186.add ((x5_1).toNat * 11)).off + 5, none⟩ = some (.slice A186_5 ((rd_T41 l0 x5_1).f5).length c186_5) ∧ w'.cell? ⟨(ad186.add ((x5_1).toNat * 11)).block, (ad186.add ((x5_1).toNat * 11)).off + 6, none⟩ = some (.int .u16 ((rd_T41 l0 x5_1).f6.f0)) ∧ w'.cell? ⟨(ad186.add ((x5_1).toNat * 11)).block, (ad186.add ((x5_1).toNat * 11)).off + 7, none⟩ = some (.int .u16 ((rd_T41 l0 x5_1).f6.f1)) ∧ w'.cell? ⟨(ad186.add ((x5_1).toNat * 11)).block, (ad186.add ((x5_1).toNat * 11)).off + 8, none⟩ = some (.int .u16 ((rd_T41 l0 x5_1).f6.f2)) ∧ w'.cell? ⟨(ad186.add ((x5_1).toNat * 11)).block, (ad186.add ((x5_1).toNat * 11)).off + 9, none⟩ = some (.int .i64 ((rd_T41 l0 x5_1).f6.f3)) ∧ w'.cell? ⟨(ad186.add ((x5_1).toNat * 11)).block, (ad186.add ((x5_1).toNat * 11)).off + 10, none⟩ = some (.int .i64 ((rd_T41 l0 x5_1).f6.f4)) ∧ w'.cell? (ad187.add ((x5_1).toNat * 11)) = some (.int .i64 ((rd_T41 l1 x5_1).f0)) ∧ w'.cell? ⟨(ad187.add ((x5_1).toNat * 11)).block, (ad187.add ((x5_1).toNat * 11)).off + 1, none⟩ = some (.int .i64 ((rd_T41 l1 x5_1).f1)) ∧ w'.cell? ⟨(ad187.add ((x5_1).toNat * 11)).block, (ad187.add ((x5_1).toNat * 11)).off + 2, none⟩ = some (.int .i64 ((rd_T41 l1 x5_1).f2)) ∧ w'.cell? ⟨(ad187.add ((x5_1).toNat * 11)).block, (ad187.add ((x5_1).toNat * 11)).off + 3, none⟩ = some (.int .i64 ((rd_T41 l1 x5_1).f3)) ∧ w'.cell? ⟨(ad187.add ((x5_1).toNat * 11)).block, (ad187.add ((x5_1).toNat * 11)).off + 4, none⟩ = some (.string ((rd_T41 l1 x5_1).f4)) ∧ w'.cell? ⟨(ad187.add ((x5_1).toNat * 11)).block, (ad187.add ((x5_1).toNat * 11)).off + 5, none⟩ = some (.slice A187_5 ((rd_T41 l1 x5_1).f5).length c187_5) ∧ w'.cell? ⟨(ad187.add ((x5_1).toNat * 11)).block, (ad187.add ((x5_1).toNat * 11)).off + 6, none⟩ = some (.int .u16 ((rd_T41 l1 x5_1).f6.f0)) ∧ w'.cell? ⟨(ad187.add ((x5_1).toNat * 11)).block, (ad187.add ((x5_1).toNat * 11)).off + 7, none⟩ = some (.int .u16 ((rd_T41 l1 x5_1).f6.f1)) ∧ w'.cell? ⟨(ad187.add ((x5_1).toNat * 11)).block, (ad187.add ((x5_1).toNat * 11)).off + 8, none⟩ = some (.int .u16 ((rd_T41 l1 x5_1).f6.f2)) ∧ w'.cell? ⟨(ad187.add ((x5_1).toNat * 11)).block, (ad187.add ((x5_1).toNat * 11)).off + 9, none⟩ = some (.int .i64 ((rd_T41 l1 x5_1).f6.f3)) ∧ w'.cell? ⟨(ad187.add ((x5_1).toNat * 11)).block, (ad187.add ((x5_1).toNat * 11)).off + 10, none⟩ = some (.int .i64 ((rd_T41 l1 x5_1).f6.f4))) (ds := []) #[false, false, false, false, false, false, false, false, false, false] (by kernel_rfl) rfl rfl ⟨((HB.out.cell (World.block_lt_of_cell? w _ hw186_0)).trans hw186_0), ((HB.out.cell (World.block_lt_of_cell? w _ hw186_1)).trans hw186_1), ((HB.out.cell (World.block_lt_of_cell? w _ hw186_2)).trans hw186_2), ((HB.out.cell (World.block_lt_of_cell? w _ hw186_3)).trans hw186_3), ((HB.out.cell (World.block_lt_of_cell? w _ hw186_4)).trans hw186_4), ((HB.out.cell (World.block_lt_of_cell? w _ hw186_5)).trans hw186_5), ((HB.out.cell (World.block_lt_of_cell? w _ hw186_6)).trans hw186_6), ((HB.out.cell (World.block_lt_of_cell? w _ hw186_7)).trans hw186_7), ((HB.out.cell (World.block_lt_of_cell? w _ hw186_8)).trans hw186_8), ((HB.out.cell (World.block_lt_of_cell? w _ hw186_9)).trans hw186_9), ((HB.out.cell (World.block_lt_of_cell? w _ hw186_10)).trans hw186_10), ((HB.out.cell (World.block_lt_of_cell? w _ hw187_0)).trans hw187_0), ((HB.out.cell (World.block_lt_of_cell? w _ hw187_1)).trans hw187_1), ((HB.out.cell (World.block_lt_of_cell? w _ hw187_2)).trans hw187_2), ((HB.out.cell (World.block_lt_of_cell? w _ hw187_3)).trans hw187_3), ((HB.out.cell (World.block_lt_of_cell? w _ hw187_4)).trans hw187_4), ((HB.out.cell (World.block_lt_of_cell? w _ hw187_5)).trans hw187_5), ((HB.out.cell (World.block_lt_of_cell? w _ hw187_6)).trans hw187_6), ((HB.out.cell (World.block_lt_of_cell? w _ hw187_7)).trans hw187_7), ((HB.out.cell (World.block_lt_of_cell? w _ hw187_8)).trans hw187_8), ((HB.out.cell (World.block_lt_of_cell? w _ hw187_9)).trans hw187_9), ((HB.out.cell (World.block_lt_of_cell? w _ hw187_10)).trans hw187_10)⟩ (fun hHeld => ?_); refine with_tabW antipoderef29_SameAll.tab6 antipoderef29_SameAll.bits6 (fun HT_ HW_ => ?_)
        generalize wr.drew = w9 at HB HR186_5 HR187_5 hx186_0 hx186_1 hx186_10 hx186_2 hx186_3 hx186_4 hx186_5 hx186_6 hx186_7 hx186_8 hx186_9 hx187_0 hx187_1 hx187_10 hx187_2 hx187_3 hx187_4 hx187_5 hx187_6 hx187_7 hx187_8 hx187_9 hHeld ⊢
        refine pure_ (i := 0) (N := some 17) (v := ?_) (a' := ?_) #[true, false, false, false, false, false, false, false, false, false] rfl rfl (any_of HT_.out (by kernel_rfl)) (fun _ _ _ h => h) (Or.inl ⟨by rfl, ?_⟩) ?_ ?_
        rotate_left
        ·intro w'
         go_simp
         with_reducible rfl
        rotate_left
        ·simp only [Act.put, List.setIfInBounds_toArray, List.set_cons_zero, List.set_cons_succ, i64_w, i32_w]
         rfl
        refine pure_ (i := 1) (N := some 18) (v := ?_) (a' := ?_) #[true, true, false, false, false, false, false, false, false, false] rfl rfl (any_of HT_.out (by kernel_rfl)) (fun _ _ _ h => h) (Or.inl ⟨by rfl, ?_⟩) ?_ ?_
        rotate_left
        ·intro w'
         go_simp
         with_reducible rfl
        rotate_left
        ·simp only [Act.put, List.setIfInBounds_toArray, List.set_cons_zero, List.set_cons_succ, i64_w, i32_w]
         rfl
        refine pure_ (i := 2) (N := some 19) (v := ?_) (a' := ?_) #[true, true, true, false, false, false, false, false, false, false] rfl rfl (any_of HT_.out (by kernel_rfl)) (fun _ _ _ h => h) (Or.inl ⟨by rfl, ?_⟩) ?_ ?_
        rotate_left
        ·intro w'
         go_simp
         with_reducible rfl
        rotate_left
        ·simp only [Act.put, List.setIfInBounds_toArray, List.set_cons_zero, List.set_cons_succ, i64_w, i32_w]
         rfl
        refine pure_ (i := 4) (N := some 21) (v := ?_) (a' := ?_) #[true, true, true, false, true, false, false, false, false, false] rfl rfl (any_of HT_.out (by kernel_rfl)) (fun _ _ _ h => h) (Or.inl ⟨by rfl, ?_⟩) ?_ ?_
        rotate_left
        ·intro w'
         go_simp
         with_reducible rfl
        rotate_left
        ·simp only [Act.put, List.setIfInBounds_toArray, List.set_cons_zero, List.set_cons_succ, i64_w, i32_w]
         rfl
        refine pure_ (i := 5) (N := some 22) (v := ?_) (a' := ?_) #[true, true, true, false, true, true, false, false, false, false] rfl rfl (any_of HT_.out (by kernel_rfl)) (fun _ _ _ h => h) (Or.inl ⟨by rfl, ?_⟩) ?_ ?_
        rotate_left
        ·intro w'
         go_simp
         with_reducible rfl
        rotate_left
        ·simp only [Act.put, List.setIfInBounds_toArray, List.set_cons_zero, List.set_cons_succ, i64_w, i32_w]
         rfl
        refine pure_ (i := 6) (N := some 23) (v := ?_) (a' := ?_) #[true, true, true, false, true, true, true, false, false, false] rfl rfl (any_of HT_.out (by kernel_rfl)) (fun _ _ _ h => h) (Or.inl ⟨by rfl, ?_⟩) ?_ ?_
        rotate_left
        ·intro w'
         go_simp
         with_reducible rfl
        rotate_left
        ·simp only [Act.put, List.setIfInBounds_toArray, List.set_cons_zero, List.set_cons_succ, i64_w, i32_w]
         rfl
        refine take_ (i := 3) (N := some 20) (v := ?_) (a' := ?_) #[true, true, true, true, true, true, true, false, false, false] rfl rfl (take_ofW HT_.out HW_.out (by kernel_rfl)) (fun _ _ _ h => h) (Or.inl ⟨by rfl, ?_⟩) hHeld ?_ ?_
        rotate_left
        ·rintro w' ⟨s0, s1, s2, s3, s4, s5, s6, s7, s8, s9, s10, s11, s12, s13, s14, s15, s16, s17, s18, s19, s20, s21⟩
         go_simp
         with_reducible rfl
        rotate_left
        ·simp only [Act.put, List.setIfInBounds_toArray, List.set_cons_zero, List.set_cons_succ, i64_w, i32_w]
         rfl
        refine take_ (i := 7) (N := some 24) (v := ?_) (a' := ?_) #[true, true, true, true, true, true, true, true, false, false] rfl rfl (take_ofW HT_.out HW_.out (by kernel_rfl)) (fun _ _ _ h => h) (Or.inl ⟨by rfl, ?_⟩) hHeld ?_ ?_
        rotate_left
        ·rintro w' ⟨s0, s1, s2, s3, s4, s5, s6, s7, s8, s9, s10, s11, s12, s13, s14, s15, s16, s17, s18, s19, s20, s21⟩
         go_simp
         with_reducible rfl
        rotate_left
        ·simp only [Act.put, List.setIfInBounds_toArray, List.set_cons_zero, List.set_cons_succ, i64_w, i32_w]
         rfl
        refine one_ (i := 8) (N := some 25) #[true, true, true, true, true, true, true, true, true, false] rfl rfl (one_of HT_.out (by kernel_rfl)) (by decide) (fun K hK => ?_)
        refine goes_ Try.func18 (by kernel_rfl) rfl #[.agg #[.int .i64 ((rd_T41 l0 x5_1).f0), .int .i64 ((rd_T41 l0 x5_1).f1), .int .i64 ((rd_T41 l0 x5_1).f2), .int .i64 ((rd_T41 l0 x5_1).f3), .string ((rd_T41 l0 x5_1).f4), .slice A186_5 ((rd_T41 l0 x5_1).f5).length c186_5, .int .u16 ((rd_T41 l0 x5_1).f6.f0), .int .u16 ((rd_T41 l0 x5_1).f6.f1), .int .u16 ((rd_T41 l0 x5_1).f6.f2), .int .i64 ((rd_T41 l0 x5_1).f6.f3), .int .i64 ((rd_T41 l0 x5_1).f6.f4)], .agg #[.int .i64 ((rd_T41 l1 x5_1).f0), .int .i64 ((rd_T41 l1 x5_1).f1), .int .i64 ((rd_T41 l1 x5_1).f2), .int .i64 ((rd_T41 l1 x5_1).f3), .string ((rd_T41 l1 x5_1).f4), .slice A187_5 ((rd_T41 l1 x5_1).f5).length c187_5, .int .u16 ((rd_T41 l1 x5_1).f6.f0), .int .u16 ((rd_T41 l1 x5_1).f6.f1), .int .u16 ((rd_T41 l1 x5_1).f6.f2), .int .i64 ((rd_T41 l1 x5_1).f6.f3), .int .i64 ((rd_T41 l1 x5_1).f6.f4)]] (by rfl) rfl rfl (by (try simp only [List.map_toArray, List.map_cons, List.map_nil]); first | done | rfl | (simp only [List.length_drop, List.length_take]; rfl)) ?_
        with_reducible refine (antipoderef29_Same.calls k1 ((rd_T41 l0 x5_1).f0) ((rd_T41 l0 x5_1).f1) ((rd_T41 l0 x5_1).f2) ((rd_T41 l0 x5_1).f3) ((rd_T41 l0 x5_1).f4) _ _ ((rd_T41 l0 x5_1).f5) ((rd_T41 l0 x5_1).f6.f0) ((rd_T41 l0 x5_1).f6.f1) ((rd_T41 l0 x5_1).f6.f2) ((rd_T41 l0 x5_1).f6.f3) ((rd_T41 l0 x5_1).f6.f4) ((rd_T41 l1 x5_1).f0) ((rd_T41 l1 x5_1).f1) ((rd_T41 l1 x5_1).f2) ((rd_T41 l1 x5_1).f3) ((rd_T41 l1 x5_1).f4) _ _ ((rd_T41 l1 x5_1).f5) ((rd_T41 l1 x5_1).f6.f0) ((rd_T41 l1 x5_1).f6.f1) ((rd_T41 l1 x5_1).f6.f2) ((rd_T41 l1 x5_1).f6.f3) ((rd_T41 l1 x5_1).f6.f4) true _ ?side1 ?side2 ?side3 ?side4 A7.out).mono ?_
        (case side1 => repeat (first | exact (Kd.C_below HR186_5.out HB.out) | (with_reducible refine Kd.C_alloc ?_ _) | (with_reducible refine Kd.C_drewN ?_ _) | (with_reducible refine Kd.C_drew ?_)))
        (case side2 => exact HC186_5.out)
        (case side3 => repeat (first | exact (Kd.C_below HR187_5.out HB.out) | (with_reducible refine Kd.C_alloc ?_ _) | (with_reducible refine Kd.C_drewN ?_ _) | (with_reducible refine Kd.C_drew ?_)))
        (case side4 => exact HC187_5.out)
        rintro e w10 ⟨rfl, hb⟩
        refine ⟨_, rfl, ?_⟩
        have n0_ := Aside0.mk (below_step (by repeat (first | (with_reducible first | exact HB.out | apply below_alloc | apply pw_below_drewN | apply below_drew1) | exact HB.out)) hb)
        clear HB
        have HB := n0_
        clear n0_
        (try clear hb)
        (try clear hb2)
        (try clear hk)
        (try clear hi)
        refine hK.out _ _ ⟨((HB.out.cell (World.block_lt_of_cell? w _ hw186_0)).trans hw186_0), ((HB.out.cell (World.block_lt_of_cell? w _ hw186_1)).trans hw186_1), ((HB.out.cell (World.block_lt_of_cell? w _ hw186_2)).trans hw186_2), ((HB.out.cell (World.block_lt_of_cell? w _ hw186_3)).trans hw186_3), ((HB.out.cell (World.block_lt_of_cell? w _ hw186_4)).trans hw186_4), ((HB.out.cell (World.block_lt_of_cell? w _ hw186_5)).trans hw186_5), ((HB.out.cell (World.block_lt_of_cell? w _ hw186_6)).trans hw186_6), ((HB.out.cell (World.block_lt_of_cell? w _ hw186_7)).trans hw186_7), ((HB.out.cell (World.block_lt_of_cell? w _ hw186_8)).trans hw186_8), ((HB.out.cell (World.block_lt_of_cell? w _ hw186_9)).trans hw186_9), ((HB.out.cell (World.block_lt_of_cell? w _ hw186_10)).trans hw186_10), ((HB.out.cell (World.block_lt_of_cell? w _ hw187_0)).trans hw187_0), ((HB.out.cell (World.block_lt_of_cell? w _ hw187_1)).trans hw187_1), ((HB.out.cell (World.block_lt_of_cell? w _ hw187_2)).trans hw187_2), ((HB.out.cell (World.block_lt_of_cell? w _ hw187_3)).trans hw187_3), ((HB.out.cell (World.block_lt_of_cell? w _ hw187_4)).trans hw187_4), ((HB.out.cell (World.block_lt_of_cell? w _ hw187_5)).trans hw187_5), ((HB.out.cell (World.block_lt_of_cell? w _ hw187_6)).trans hw187_6), ((HB.out.cell (World.block_lt_of_cell? w _ hw187_7)).trans hw187_7), ((HB.out.cell (World.block_lt_of_cell? w _ hw187_8)).trans hw187_8), ((HB.out.cell (World.block_lt_of_cell? w _ hw187_9)).trans hw187_9), ((HB.out.cell (World.block_lt_of_cell? w _ hw187_10)).trans hw187_10)⟩ (fun hHeld => ?_)
        clear hK K
        refine norm_ (a' := ?_) ?_ ?_
        rotate_left
        ·show Act.put _ (some 25) _ = _
         simp only [Act.put, List.setIfInBounds_toArray, List.set_cons_zero, List.set_cons_succ, i64_w, i32_w]
         rfl
        refine pure_ (i := 9) (N := some 26) (v := ?_) (a' := ?_) #[true, true, true, true, true, true, true, true, true, true] rfl rfl (any_of HT_.out (by kernel_rfl)) (fun _ _ _ h => h) (Or.inl ⟨by rfl, ?_⟩) ?_ ?_
        rotate_left
        ·intro w'
         go_simp
         with_reducible rfl
        rotate_left
        ·simp only [Act.put, List.setIfInBounds_toArray, List.set_cons_zero, List.set_cons_succ, i64_w, i32_w]
         rfl
        refine done_ (done_of HT_.out (by kernel_rfl)) ?_
        try go_wp2
        go_roundg k1
        case measure => have := HK1.out; omega
        case rel => exact ⟨(wrap64 (x5_1 + 1)), (by first | rfl | (simp; done) | (simp [*]; done)), H', ⟨by have := HK1.out; omega⟩, ⟨by repeat (first | (with_reducible first | exact HB.out | apply below_alloc | apply pw_below_drewN | apply below_drew1) | exact HB.out)⟩⟩
       ·replace c8 := Bool.eq_false_iff.mpr c8
        subst c8
        have H1 : (some false) = some r := by rw [if_neg (show ¬ (false = true) by decide)] at H; exact H
        clear H
        have H := H1
        clear H1
        obtain rfl := Option.some.inj H
        try go_wp2
        have n0_ := Aside0.mk (below_drew1 HB.out)
        clear HB
        have HB := n0_
        clear n0_
        have p186 : 0 ≤ (x5_1 : Int) := of_decide_eq_true (by first | (with_reducible assumption) | assumption)
        have q186 : x5_1 < (l0.length : Int) := of_decide_eq_true (by first | (with_reducible assumption) | assumption)
        obtain ⟨ad186, A186_5, c186_5, e186, hx186_0, hx186_1, hx186_2, hx186_3, hx186_4, hx186_5, hx186_6, hx186_7, hx186_8, hx186_9, hx186_10, hl186_5, hi186_5⟩ := at_T41 HR0.out x5_1 p186 q186
        have hw186_10 := hx186_10
        have hw186_9 := hx186_9
        have hw186_8 := hx186_8
        have hw186_7 := hx186_7
        have hw186_6 := hx186_6
        have hw186_5 := hx186_5
        have hw186_4 := hx186_4
        have hw186_3 := hx186_3
        have hw186_2 := hx186_2
        have hw186_1 := hx186_1
        have hw186_0 := hx186_0
        cases e186
        replace hx186_0 := (HB.out.cell (World.block_lt_of_cell? w _ hx186_0)).trans hx186_0
        replace hx186_1 := (HB.out.cell (World.block_lt_of_cell? w _ hx186_1)).trans hx186_1
        replace hx186_2 := (HB.out.cell (World.block_lt_of_cell? w _ hx186_2)).trans hx186_2
        replace hx186_3 := (HB.out.cell (World.block_lt_of_cell? w _ hx186_3)).trans hx186_3
        replace hx186_4 := (HB.out.cell (World.block_lt_of_cell? w _ hx186_4)).trans hx186_4
        replace hx186_5 := (HB.out.cell (World.block_lt_of_cell? w _ hx186_5)).trans hx186_5
        replace hx186_6 := (HB.out.cell (World.block_lt_of_cell? w _ hx186_6)).trans hx186_6
        replace hx186_7 := (HB.out.cell (World.block_lt_of_cell? w _ hx186_7)).trans hx186_7
        replace hx186_8 := (HB.out.cell (World.block_lt_of_cell? w _ hx186_8)).trans hx186_8
        replace hx186_9 := (HB.out.cell (World.block_lt_of_cell? w _ hx186_9)).trans hx186_9
        replace hx186_10 := (HB.out.cell (World.block_lt_of_cell? w _ hx186_10)).trans hx186_10
        have HR186_5 := Aside0.mk hi186_5
        have HC186_5 := Aside0.mk hl186_5
        clear hi186_5 hl186_5
        replace p186 := eq_true p186
        replace q186 := eq_true q186
        have p187 : 0 ≤ (x5_1 : Int) := of_decide_eq_true (by first | (with_reducible assumption) | assumption)
        have q187 : x5_1 < (l1.length : Int) := of_decide_eq_true (by first | (with_reducible assumption) | assumption)
        obtain ⟨ad187, A187_5, c187_5, e187, hx187_0, hx187_1, hx187_2, hx187_3, hx187_4, hx187_5, hx187_6, hx187_7, hx187_8, hx187_9, hx187_10, hl187_5, hi187_5⟩ := at_T41 HR1.out x5_1 p187 q187
        have hw187_10 := hx187_10
        have hw187_9 := hx187_9
        have hw187_8 := hx187_8
        have hw187_7 := hx187_7
        have hw187_6 := hx187_6
        have hw187_5 := hx187_5
        have hw187_4 := hx187_4
        have hw187_3 := hx187_3
        have hw187_2 := hx187_2
        have hw187_1 := hx187_1
        have hw187_0 := hx187_0
        cases e187
        replace hx187_0 := (HB.out.cell (World.block_lt_of_cell? w _ hx187_0)).trans hx187_0
        replace hx187_1 := (HB.out.cell (World.block_lt_of_cell? w _ hx187_1)).trans hx187_1
        replace hx187_2 := (HB.out.cell (World.block_lt_of_cell? w _ hx187_2)).trans hx187_2
        replace hx187_3 := (HB.out.cell (World.block_lt_of_cell? w _ hx187_3)).trans hx187_3
        replace hx187_4 := (HB.out.cell (World.block_lt_of_cell? w _ hx187_4)).trans hx187_4
        replace hx187_5 := (HB.out.cell (World.block_lt_of_cell? w _ hx187_5)).trans hx187_5
        replace hx187_6 := (HB.out.cell (World.block_lt_of_cell? w _ hx187_6)).trans hx187_6
        replace hx187_7 := (HB.out.cell (World.block_lt_of_cell? w _ hx187_7)).trans hx187_7
        replace hx187_8 := (HB.out.cell (World.block_lt_of_cell? w _ hx187_8)).trans hx187_8
        replace hx187_9 := (HB.out.cell (World.block_lt_of_cell? w _ hx187_9)).trans hx187_9
        replace hx187_10 := (HB.out.cell (World.block_lt_of_cell? w _ hx187_10)).trans hx187_10
        have HR187_5 := Aside0.mk hi187_5
        have HC187_5 := Aside0.mk hl187_5
        clear hi187_5 hl187_5
        replace p187 := eq_true p187
        replace q187 := eq_true q187
        refine start_ (n := 10) (S := fun w' => w'.cell? (ad186.add ((x5_1).toNat * 11)) = some (.int .i64 ((rd_T41 l0 x5_1).f0)) ∧ w'.cell? ⟨(ad186.add ((x5_1).toNat * 11)).block, (ad186.add ((x5_1).toNat * 11)).off + 1, none⟩ = some (.int .i64 ((rd_T41 l0 x5_1).f1)) ∧ w'.cell? ⟨(ad186.add ((x5_1).toNat * 11)).block, (ad186.add ((x5_1).toNat * 11)).off + 2, none⟩ = some (.int .i64 ((rd_T41 l0 x5_1).f2)) ∧ w'.cell? ⟨(ad186.add ((x5_1).toNat * 11)).block, (ad186.add ((x5_1).toNat * 11)).off + 3, none⟩ = some (.int .i64 ((rd_T41 l0 x5_1).f3)) ∧ w'.cell? ⟨(ad186.add ((x5_1).toNat * 11)).block, (ad186.add ((x5_1).toNat * 11)).off + 4, none⟩ = some (.string ((rd_T41 l0 x5_1).f4)) ∧ w'.cell? ⟨(ad186.add ((x5_1).toNat * 11)).block, (ad186.add ((x5_1).toNat * 11)).off + 5, none⟩ = some (.slice A186_5 ((rd_T41 l0 x5_1).f5).length c186_5) ∧ w'.cell? ⟨(ad186.add ((x5_1).toNat * 11)).block, (ad186.add ((x5_1).toNat * 11)).off + 6, none⟩ = some (.int .u16 ((rd_T41 l0 x5_1).f6.f0)) ∧ w'.cell? ⟨(ad186.add ((x5_1).toNat * 11)).block, (ad186.add ((x5_1).toNat * 11)).off + 7, none⟩ = some (.int .u16 ((rd_T41 l0 x5_1).f6.f1)) ∧ w'.cell? ⟨(ad186.add ((x5_1).toNat * 11)).block, (ad186.add ((x5_1).toNat * 11)).off + 8, none⟩ = some (.int .u16 ((rd_T41 l0 x5_1).f6.f2)) ∧ w'.cell? ⟨(ad186.add ((x5_1).toNat * 11)).block, (ad186.add ((x5_1).toNat * 11)).off + 9, none⟩ = some (.int .i64 ((rd_T41 l0 x5_1).f6.f3)) ∧ w'.cell? ⟨(ad186.add ((x5_1).toNat * 11)).block, (ad186.add ((x5_1).toNat * 11)).off + 10, none⟩ = some (.int .i64 ((rd_T41 l0 x5_1).f6.f4)) ∧ w'.cell? (ad187.add ((x5_1).toNat * 11)) = some (.int .i64 ((rd_T41 l1 x5_1).f0)) ∧ w'.cell? ⟨(ad187.add ((x5_1).toNat * 11)).block, (ad187.add ((x5_1).toNat * 11)).off + 1, none⟩ = some (.int .i64 ((rd_T41 l1 x5_1).f1)) ∧ w'.cell? ⟨(ad187.add ((x5_1).toNat * 11)).block, (ad187.add ((x5_1).toNat * 11)).off + 2, none⟩ = some (.int .i64 ((rd_T41 l1 x5_1).f2)) ∧ w'.cell? ⟨(ad187.add ((x5_1).toNat * 11)).block, (ad187.add ((x5_1).toNat * 11)).off + 3, none⟩ = some (.int .i64 ((rd_T41 l1 x5_1).f3)) ∧ w'.cell? ⟨(ad187.add ((x5_1).toNat * 11)).block, (ad187.add ((x5_1).toNat * 11)).off + 4, none⟩ = some (.string ((rd_T41 l1 x5_1).f4)) ∧ w'.cell? ⟨(ad187.add ((x5_1).toNat * 11)).block, (ad187.add ((x5_1).toNat * 11)).off + 5, none⟩ = some (.slice A187_5 ((rd_T41 l1 x5_1).f5).length c187_5) ∧ w'.cell? ⟨(ad187.add ((x5_1).toNat * 11)).block, (ad187.add ((x5_1).toNat * 11)).off + 6, none⟩ = some (.int .u16 ((rd_T41 l1 x5_1).f6.f0)) ∧ w'.cell? ⟨(ad187.add ((x5_1).toNat * 11)).block, (ad187.add ((x5_1).toNat * 11)).off + 7, none⟩ = some (.int .u16 ((rd_T41 l1 x5_1).f6.f1)) ∧ w'.cell? ⟨(ad187.add ((x5_1).toNat * 11)).block, (ad187.add ((x5_1).toNat * 11)).off + 8, none⟩ = some (.int .u16 ((rd_T41 l1 x5_1).f6.f2)) ∧ w'.cell? ⟨(ad187.add ((x5_1).toNat * 11)).block, (ad187.add ((x5_1).toNat * 11)).off + 9, none⟩ = some (.int .i64 ((rd_T41 l1 x5_1).f6.f3)) ∧ w'.cell? ⟨(ad187.add ((x5_1).toNat * 11)).block, (ad187.add ((x5_1).toNat * 11)).off + 10, none⟩ = some (.int .i64 ((rd_T41 l1 x5_1).f6.f4))) (ds := []) #[false, false, false, false, false, false, false, false, false, false] (by kernel_rfl) rfl rfl ⟨((HB.out.cell (World.block_lt_of_cell? w _ hw186_0)).trans hw186_0), ((HB.out.cell (World.block_lt_of_cell? w _ hw186_1)).trans hw186_1), ((HB.out.cell (World.block_lt_of_cell? w _ hw186_2)).trans hw186_2), ((HB.out.cell (World.block_lt_of_cell? w _ hw186_3)).trans hw186_3), ((HB.out.cell (World.block_lt_of_cell? w _ hw186_4)).trans hw186_4), ((HB.out.cell (World.block_lt_of_cell? w _ hw186_5)).trans hw186_5), ((HB.out.cell (World.block_lt_of_cell? w _ hw186_6)).trans hw186_6), ((HB.out.cell (World.block_lt_of_cell? w _ hw186_7)).trans hw186_7), ((HB.out.cell (World.block_lt_of_cell? w _ hw186_8)).trans hw186_8), ((HB.out.cell (World.block_lt_of_cell? w _ hw186_9)).trans hw186_9), ((HB.out.cell (World.block_lt_of_cell? w _ hw186_10)).trans hw186_10), ((HB.out.cell (World.block_lt_of_cell? w _ hw187_0)).trans hw187_0), ((HB.out.cell (World.block_lt_of_cell? w _ hw187_1)).trans hw187_1), ((HB.out.cell (World.block_lt_of_cell? w _ hw187_2)).trans hw187_2), ((HB.out.cell (World.block_lt_of_cell? w _ hw187_3)).trans hw187_3), ((HB.out.cell (World.block_lt_of_cell? w _ hw187_4)).trans hw187_4), ((HB.out.cell (World.block_lt_of_cell? w _ hw187_5)).trans hw187_5), ((HB.out.cell (World.block_lt_of_cell? w _ hw187_6)).trans hw187_6), ((HB.out.cell (World.block_lt_of_cell? w _ hw187_7)).trans hw187_7), ((HB.out.cell (World.block_lt_of_cell? w _ hw187_8)).trans hw187_8), ((HB.out.cell (World.block_lt_of_cell? w _ hw187_9)).trans hw187_9), ((HB.out.cell (World.block_lt_of_cell? w _ hw187_10)).trans hw187_10)⟩ (fun hHeld => ?_); refine with_tabW antipoderef29_SameAll.tab6 antipoderef29_SameAll.bits6 (fun HT_ HW_ => ?_)
        generalize wr.drew = w11 at HB HR186_5 HR187_5 hx186_0 hx186_1 hx186_10 hx186_2 hx186_3 hx186_4 hx186_5 hx186_6 hx186_7 hx186_8 hx186_9 hx187_0 hx187_1 hx187_10 hx187_2 hx187_3 hx187_4 hx187_5 hx187_6 hx187_7 hx187_8 hx187_9 hHeld ⊢
        refine pure_ (i := 0) (N := some 17) (v := ?_) (a' := ?_) #[true, false, false, false, false, false, false, false, false, false] rfl rfl (any_of HT_.out (by kernel_rfl)) (fun _ _ _ h => h) (Or.inl ⟨by rfl, ?_⟩) ?_ ?_
        rotate_left
        ·intro w'
         go_simp
         with_reducible rfl
        rotate_left
        ·simp only [Act.put, List.setIfInBounds_toArray, List.set_cons_zero, List.set_cons_succ, i64_w, i32_w]
         rfl
        refine pure_ (i := 1) (N := some 18) (v := ?_) (a' := ?_) #[true, true, false, false, false, false, false, false, false, false] rfl rfl (any_of HT_.out (by kernel_rfl)) (fun _ _ _ h => h) (Or.inl ⟨by rfl, ?_⟩) ?_ ?_
        rotate_left
        ·intro w'
         go_simp
         with_reducible rfl
        rotate_left
        ·simp only [Act.put, List.setIfInBounds_toArray, List.set_cons_zero, List.set_cons_succ, i64_w, i32_w]
         rfl
        refine pure_ (i := 2) (N := some 19) (v := ?_) (a' := ?_) #[true, true, true, false, false, false, false, false, false, false] rfl rfl (any_of HT_.out (by kernel_rfl)) (fun _ _ _ h => h) (Or.inl ⟨by rfl, ?_⟩) ?_ ?_
        rotate_left
        ·intro w'
         go_simp
         with_reducible rfl
        rotate_left
        ·simp only [Act.put, List.setIfInBounds_toArray, List.set_cons_zero, List.set_cons_succ, i64_w, i32_w]
         rfl
        refine pure_ (i := 4) (N := some 21) (v := ?_) (a' := ?_) #[true, true, true, false, true, false, false, false, false, false] rfl rfl (any_of HT_.out (by kernel_rfl)) (fun _ _ _ h => h) (Or.inl ⟨by rfl, ?_⟩) ?_ ?_
        rotate_left
        ·intro w'
         go_simp
         with_reducible rfl
        rotate_left
        ·simp only [Act.put, List.setIfInBounds_toArray, List.set_cons_zero, List.set_cons_succ, i64_w, i32_w]
         rfl
        refine pure_ (i := 5) (N := some 22) (v := ?_) (a' := ?_) #[true, true, true, false, true, true, false, false, false, false] rfl rfl (any_of HT_.out (by kernel_rfl)) (fun _ _ _ h => h) (Or.inl ⟨by rfl, ?_⟩) ?_ ?_
        rotate_left
        ·intro w'
         go_simp
         with_reducible rfl
        rotate_left
        ·simp only [Act.put, List.setIfInBounds_toArray, List.set_cons_zero, List.set_cons_succ, i64_w, i32_w]
         rfl
        refine pure_ (i := 6) (N := some 23) (v := ?_) (a' := ?_) #[true, true, true, false, true, true, true, false, false, false] rfl rfl (any_of HT_.out (by kernel_rfl)) (fun _ _ _ h => h) (Or.inl ⟨by rfl, ?_⟩) ?_ ?_
        rotate_left
        ·intro w'
         go_simp
         with_reducible rfl
        rotate_left
        ·simp only [Act.put, List.setIfInBounds_toArray, List.set_cons_zero, List.set_cons_succ, i64_w, i32_w]
         rfl
        refine take_ (i := 3) (N := some 20) (v := ?_) (a' := ?_) #[true, true, true, true, true, true, true, false, false, false] rfl rfl (take_ofW HT_.out HW_.out (by kernel_rfl)) (fun _ _ _ h => h) (Or.inl ⟨by rfl, ?_⟩) hHeld ?_ ?_
        rotate_left
        ·rintro w' ⟨s0, s1, s2, s3, s4, s5, s6, s7, s8, s9, s10, s11, s12, s13, s14, s15, s16, s17, s18, s19, s20, s21⟩
         go_simp
         with_reducible rfl
        rotate_left
        ·simp only [Act.put, List.setIfInBounds_toArray, List.set_cons_zero, List.set_cons_succ, i64_w, i32_w]
         rfl
        refine take_ (i := 7) (N := some 24) (v := ?_) (a' := ?_) #[true, true, true, true, true, true, true, true, false, false] rfl rfl (take_ofW HT_.out HW_.out (by kernel_rfl)) (fun _ _ _ h => h) (Or.inl ⟨by rfl, ?_⟩) hHeld ?_ ?_
        rotate_left
        ·rintro w' ⟨s0, s1, s2, s3, s4, s5, s6, s7, s8, s9, s10, s11, s12, s13, s14, s15, s16, s17, s18, s19, s20, s21⟩
         go_simp
         with_reducible rfl
        rotate_left
        ·simp only [Act.put, List.setIfInBounds_toArray, List.set_cons_zero, List.set_cons_succ, i64_w, i32_w]
         rfl
        refine one_ (i := 8) (N := some 25) #[true, true, true, true, true, true, true, true, true, false] rfl rfl (one_of HT_.out (by kernel_rfl)) (by decide) (fun K hK => ?_)
        refine goes_ Try.func18 (by kernel_rfl) rfl #[.agg #[.int .i64 ((rd_T41 l0 x5_1).f0), .int .i64 ((rd_T41 l0 x5_1).f1), .int .i64 ((rd_T41 l0 x5_1).f2), .int .i64 ((rd_T41 l0 x5_1).f3), .string ((rd_T41 l0 x5_1).f4), .slice A186_5 ((rd_T41 l0 x5_1).f5).length c186_5, .int .u16 ((rd_T41 l0 x5_1).f6.f0), .int .u16 ((rd_T41 l0 x5_1).f6.f1), .int .u16 ((rd_T41 l0 x5_1).f6.f2), .int .i64 ((rd_T41 l0 x5_1).f6.f3), .int .i64 ((rd_T41 l0 x5_1).f6.f4)], .agg #[.int .i64 ((rd_T41 l1 x5_1).f0), .int .i64 ((rd_T41 l1 x5_1).f1), .int .i64 ((rd_T41 l1 x5_1).f2), .int .i64 ((rd_T41 l1 x5_1).f3), .string ((rd_T41 l1 x5_1).f4), .slice A187_5 ((rd_T41 l1 x5_1).f5).length c187_5, .int .u16 ((rd_T41 l1 x5_1).f6.f0), .int .u16 ((rd_T41 l1 x5_1).f6.f1), .int .u16 ((rd_T41 l1 x5_1).f6.f2), .int .i64 ((rd_T41 l1 x5_1).f6.f3), .int .i64 ((rd_T41 l1 x5_1).f6.f4)]] (by rfl) rfl rfl (by (try simp only [List.map_toArray, List.map_cons, List.map_nil]); first | done | rfl | (simp only [List.length_drop, List.length_take]; rfl)) ?_
        with_reducible refine (antipoderef29_Same.calls k1 ((rd_T41 l0 x5_1).f0) ((rd_T41 l0 x5_1).f1) ((rd_T41 l0 x5_1).f2) ((rd_T41 l0 x5_1).f3) ((rd_T41 l0 x5_1).f4) _ _ ((rd_T41 l0 x5_1).f5) ((rd_T41 l0 x5_1).f6.f0) ((rd_T41 l0 x5_1).f6.f1) ((rd_T41 l0 x5_1).f6.f2) ((rd_T41 l0 x5_1).f6.f3) ((rd_T41 l0 x5_1).f6.f4) ((rd_T41 l1 x5_1).f0) ((rd_T41 l1 x5_1).f1) ((rd_T41 l1 x5_1).f2) ((rd_T41 l1 x5_1).f3) ((rd_T41 l1 x5_1).f4) _ _ ((rd_T41 l1 x5_1).f5) ((rd_T41 l1 x5_1).f6.f0) ((rd_T41 l1 x5_1).f6.f1) ((rd_T41 l1 x5_1).f6.f2) ((rd_T41 l1 x5_1).f6.f3) ((rd_T41 l1 x5_1).f6.f4) false _ ?side1 ?side2 ?side3 ?side4 A7.out).mono ?_
        (case side1 => repeat (first | exact (Kd.C_below HR186_5.out HB.out) | (with_reducible refine Kd.C_alloc ?_ _) | (with_reducible refine Kd.C_drewN ?_ _) | (with_reducible refine Kd.C_drew ?_)))
        (case side2 => exact HC186_5.out)
        (case side3 => repeat (first | exact (Kd.C_below HR187_5.out HB.out) | (with_reducible refine Kd.C_alloc ?_ _) | (with_reducible refine Kd.C_drewN ?_ _) | (with_reducible refine Kd.C_drew ?_)))
        (case side4 => exact HC187_5.out)
        rintro e w12 ⟨rfl, hb⟩
        refine ⟨_, rfl, ?_⟩
        have n0_ := Aside0.mk (below_step (by repeat (first | (with_reducible first | exact HB.out | apply below_alloc | apply pw_below_drewN | apply below_drew1) | exact HB.out)) hb)
        clear HB
        have HB := n0_
        clear n0_
        (try clear hb)
        (try clear hb2)
        (try clear hk)
        (try clear hi)
        refine hK.out _ _ ⟨((HB.out.cell (World.block_lt_of_cell? w _ hw186_0)).trans hw186_0), ((HB.out.cell (World.block_lt_of_cell? w _ hw186_1)).trans hw186_1), ((HB.out.cell (World.block_lt_of_cell? w _ hw186_2)).trans hw186_2), ((HB.out.cell (World.block_lt_of_cell? w _ hw186_3)).trans hw186_3), ((HB.out.cell (World.block_lt_of_cell? w _ hw186_4)).trans hw186_4), ((HB.out.cell (World.block_lt_of_cell? w _ hw186_5)).trans hw186_5), ((HB.out.cell (World.block_lt_of_cell? w _ hw186_6)).trans hw186_6), ((HB.out.cell (World.block_lt_of_cell? w _ hw186_7)).trans hw186_7), ((HB.out.cell (World.block_lt_of_cell? w _ hw186_8)).trans hw186_8), ((HB.out.cell (World.block_lt_of_cell? w _ hw186_9)).trans hw186_9), ((HB.out.cell (World.block_lt_of_cell? w _ hw186_10)).trans hw186_10), ((HB.out.cell (World.block_lt_of_cell? w _ hw187_0)).trans hw187_0), ((HB.out.cell (World.block_lt_of_cell? w _ hw187_1)).trans hw187_1), ((HB.out.cell (World.block_lt_of_cell? w _ hw187_2)).trans hw187_2), ((HB.out.cell (World.block_lt_of_cell? w _ hw187_3)).trans hw187_3), ((HB.out.cell (World.block_lt_of_cell? w _ hw187_4)).trans hw187_4), ((HB.out.cell (World.block_lt_of_cell? w _ hw187_5)).trans hw187_5), ((HB.out.cell (World.block_lt_of_cell? w _ hw187_6)).trans hw187_6), ((HB.out.cell (World.block_lt_of_cell? w _ hw187_7)).trans hw187_7), ((HB.out.cell (World.block_lt_of_cell? w _ hw187_8)).trans hw187_8), ((HB.out.cell (World.block_lt_of_cell? w _ hw187_9)).trans hw187_9), ((HB.out.cell (World.block_lt_of_cell? w _ hw187_10)).trans hw187_10)⟩ (fun hHeld => ?_)
        clear hK K
        refine norm_ (a' := ?_) ?_ ?_
        rotate_left
        ·show Act.put _ (some 25) _ = _
         simp only [Act.put, List.setIfInBounds_toArray, List.set_cons_zero, List.set_cons_succ, i64_w, i32_w]
         rfl
        refine pure_ (i := 9) (N := some 26) (v := ?_) (a' := ?_) #[true, true, true, true, true, true, true, true, true, true] rfl rfl (any_of HT_.out (by kernel_rfl)) (fun _ _ _ h => h) (Or.inl ⟨by rfl, ?_⟩) ?_ ?_
        rotate_left
        ·intro w'
         go_simp
         with_reducible rfl
        rotate_left
        ·simp only [Act.put, List.setIfInBounds_toArray, List.set_cons_zero, List.set_cons_succ, i64_w, i32_w]
         rfl
        refine done_ (done_of HT_.out (by kernel_rfl)) ?_
        try go_wp2
        go_ret
        exact ⟨by first | rfl | (simp [errW_none, errW_some] <;> rfl) | (simp [*, errW_none, errW_some] <;> rfl), by repeat (first | (with_reducible first | exact HB.out | apply below_alloc | apply pw_below_drewN | apply below_drew1) | exact HB.out)⟩
      ·rw [if_neg c6] at H
       exact absurd H (by simp)
     ·rw [if_neg c5] at H
      exact absurd H (by simp)
    ·rw [if_neg c4] at H
     have c4b0 : decide (x5_1 < (l0.length : Int)) = false := decide_eq_false c4
     clear c4
     obtain rfl := Option.some.inj H
     go_wp2
     go_ret
     exact ⟨by first | rfl | (simp [errW_none, errW_some] <;> rfl) | (simp [*, errW_none, errW_some] <;> rfl), by repeat (first | (with_reducible first | exact HB.out | apply below_alloc | apply pw_below_drewN | apply below_drew1) | exact HB.out)⟩
 ·rw [if_neg c3] at H
  have c3b0 : ((l0.length : Int) == (l1.length : Int)) = false := beq_eq_false_iff_ne.mpr c3
  have c3b1 : ((l0.length : Int) != (l1.length : Int)) = true := bne_iff_ne.mpr c3
  have c3b2 : (l0.length == l1.length) = false := by first | simpa using c3 | (simp at c3 ⊢; omega)
  obtain rfl := Option.some.inj H
  go_enter Try.func12, Try.ntmps12
  go_wp2
  go_ret
  exact ⟨by first | rfl | (simp [errW_none, errW_some] <;> rfl) | (simp [*, errW_none, errW_some] <;> rfl), by repeat (first | (with_reducible first | exact HB.out | apply below_alloc | apply pw_below_drewN | apply below_drew1) | exact HB.out)⟩

/-! ### antipoderef29_long: function 19 -/
def antipoderef29_long.j0 : Nat → List Int → Int → Bool → Option (Int)
 | 0, _, _, _ => none
 | k + 1, x0, x6, x9 => if x9 = true then (some 2) else (if x6 = 10 then (if (x0.length : Int) < 3 then (some 0) else (if 2 < (x0.length : Int) then (some (wrap64 (3 + (wrap64 (rd x0 2))))) else (none))) else (if x6 = 11 then (some 4) else (if x6 = 13 then (some 3) else (if x6 = 14 then (some 5) else (if x6 = 15 then (some 1) else (some 2))))))
def antipoderef29_long.f (k : Nat) (l0 : List Int) : Option (Int) := if 0 < (l0.length : Int) then (if (Int.tmod (rd l0 0) 16) = 4 then (some 4) else (if (Int.tmod (rd l0 0) 16) = 5 then (antipoderef29_long.j0 k l0 (Int.tmod (rd l0 0) 16) ((Int.tmod (rd l0 0) 16) == 5)) else (if (Int.tmod (rd l0 0) 16) = 6 then (antipoderef29_long.j0 k l0 (Int.tmod (rd l0 0) 16) ((Int.tmod (rd l0 0) 16) == 6)) else (if (Int.tmod (rd l0 0) 16) = 7 then (antipoderef29_long.j0 k l0 (Int.tmod (rd l0 0) 16) ((Int.tmod (rd l0 0) 16) == 7)) else (if (Int.tmod (rd l0 0) 16) = 8 then (antipoderef29_long.j0 k l0 (Int.tmod (rd l0 0) 16) ((Int.tmod (rd l0 0) 16) == 8)) else (antipoderef29_long.j0 k l0 (Int.tmod (rd l0 0) 16) ((Int.tmod (rd l0 0) 16) == 9))))))) else (none)
theorem antipoderef29_long.mono_l : ∀ k, (∀ y0 y1 y2, LeO (antipoderef29_long.j0 k y0 y1 y2) (antipoderef29_long.j0 (k + 1) y0 y1 y2))
 | 0 => fun _ _ _ r h => by simp [antipoderef29_long.j0] at h
 | k + 1 => by
  have ih0 := antipoderef29_long.mono_l k
  ·intro y0 y1 y2
   unfold antipoderef29_long.j0
   repeat' first
   | (with_reducible exact ih0 _ _ _)
   | (with_reducible exact LeO.refl _)
   | (with_reducible exact LeO.none _)
   | (with_reducible refine LeO.ite ?_ ?_)
   | (with_reducible refine LeO.bind ?_ (fun _ => ?_))
   | exact ih0 _ _ _
   | exact LeO.none _
   | refine LeO.ite ?_ ?_
   | refine LeO.bind ?_ (fun _ => ?_)
theorem antipoderef29_long.mono : ∀ a0 k, LeO (antipoderef29_long.f k a0) (antipoderef29_long.f (k + 1) a0) := by
 intro a0 k
 have ih0 := antipoderef29_long.mono_l k
 unfold antipoderef29_long.f
 repeat' first
   | (with_reducible exact ih0 _ _ _)
   | (with_reducible exact LeO.refl _)
   | (with_reducible exact LeO.none _)
   | (with_reducible refine LeO.ite ?_ ?_)
   | (with_reducible refine LeO.bind ?_ (fun _ => ?_))
   | exact ih0 _ _ _
   | exact LeO.none _
   | refine LeO.ite ?_ ?_
   | refine LeO.bind ?_ (fun _ => ?_)
set_option maxHeartbeats 8000000 in
set_option maxRecDepth 100000 in
theorem antipoderef29_long.calls (k : Nat) (A0 : Option Addr) (c0 : Nat) (l0 : List Int) (r : Int) (w : World) (hr0 : Kd.C (Kd.int .u8) w A0 l0.length l0) (hc0 : l0.length ≤ c0) (h : antipoderef29_long.f k l0 = some r) :
  Calls Try.prog 19 #[.slice A0 l0.length c0] w fun e w' => e = .returned (.int .i64 r) ∧ Drawn0 w w' := by
 have HR0 := Aside0.mk hr0
 have HC0 := Aside0.mk hc0
 clear hr0 hc0
 have H : (if 0 < (l0.length : Int) then (if (Int.tmod (rd l0 0) 16) = 4 then (some 4) else (if (Int.tmod (rd l0 0) 16) = 5 then (antipoderef29_long.j0 k l0 (Int.tmod (rd l0 0) 16) ((Int.tmod (rd l0 0) 16) == 5)) else (if (Int.tmod (rd l0 0) 16) = 6 then (antipoderef29_long.j0 k l0 (Int.tmod (rd l0 0) 16) ((Int.tmod (rd l0 0) 16) == 6)) else (if (Int.tmod (rd l0 0) 16) = 7 then (antipoderef29_long.j0 k l0 (Int.tmod (rd l0 0) 16) ((Int.tmod (rd l0 0) 16) == 7)) else (if (Int.tmod (rd l0 0) 16) = 8 then (antipoderef29_long.j0 k l0 (Int.tmod (rd l0 0) 16) ((Int.tmod (rd l0 0) 16) == 8)) else (antipoderef29_long.j0 k l0 (Int.tmod (rd l0 0) 16) ((Int.tmod (rd l0 0) 16) == 9))))))) else (none)) = some r := h
 clear h
 by_cases c2 : 0 < (l0.length : Int)
 ·rw [if_pos c2] at H
  have c2b0 : decide (0 < (l0.length : Int)) = true := decide_eq_true c2
  have c2b1 : decide (0 < l0.length) = true := decide_eq_true (by omega)
  clear c2
  by_cases c3 : (Int.tmod (rd l0 0) 16) = 4
  ·rw [if_pos c3] at H
   have c3b0 : ((Int.tmod (rd l0 0) 16) == 4) = true := beq_iff_eq.mpr c3
   have c3b1 : ((Int.tmod (rd l0 0) 16) != 4) = false := bne_eq_false_iff_eq.mpr c3
   clear c3
   obtain rfl := Option.some.inj H
   have p189 : 0 ≤ (0 : Int) := (by omega)
   have q189 : 0 < (l0.length : Int) := of_decide_eq_true (by first | (with_reducible assumption) | assumption)
   obtain ⟨ad189, e189, hx189_0⟩ := Kd.at_int HR0.out 0 p189 q189
   cases e189
   have qi189 : (0 < l0.length) = True := eq_true (by omega)
   (try rw [show ((0 : Int)).toNat = 0 from rfl] at hx189_0)
   (try rw [Addr.add_zero'] at hx189_0)
   replace p189 := eq_true p189
   replace q189 := eq_true q189
   go_enter Try.func19, Try.ntmps19
   go_wp2
   go_ret
   exact ⟨by first | rfl | (simp; done) | (simp [*]; done), by repeat (first | exact Drawn0.refl _ | apply Drawn0.step)⟩
  ·rw [if_neg c3] at H
   have c3b0 : ((Int.tmod (rd l0 0) 16) == 4) = false := beq_eq_false_iff_ne.mpr c3
   have c3b1 : ((Int.tmod (rd l0 0) 16) != 4) = true := bne_iff_ne.mpr c3
   have HC4 := Aside0.mk H
   clear H
   have p189 : 0 ≤ (0 : Int) := (by omega)
   have q189 : 0 < (l0.length : Int) := of_decide_eq_true (by first | (with_reducible assumption) | assumption)
   obtain ⟨ad189, e189, hx189_0⟩ := Kd.at_int HR0.out 0 p189 q189
   cases e189
   have qi189 : (0 < l0.length) = True := eq_true (by omega)
   (try rw [show ((0 : Int)).toNat = 0 from rfl] at hx189_0)
   (try rw [Addr.add_zero'] at hx189_0)
   replace p189 := eq_true p189
   replace q189 := eq_true q189
   go_enter Try.func19, Try.ntmps19
   go_upto_if 9 with (fail)
   go_cut [9] (fun v9 wc => ∃ (kq : Nat) (x9_3 : Bool), v9 = .bool x9_3 ∧ Aside0 (antipoderef29_long.j0 kq l0 (Int.tmod (rd l0 0) 16) x9_3 = some r) ∧ Aside0 (kq ≤ k) ∧ Drawn0 w wc)
   case first =>
    have H := HC4.out
    clear HC4
    by_cases c5 : (Int.tmod (rd l0 0) 16) = 5
    ·rw [if_pos c5] at H
     have c5b0 : ((Int.tmod (rd l0 0) 16) == 5) = true := beq_iff_eq.mpr c5
     have c5b1 : ((Int.tmod (rd l0 0) 16) != 5) = false := bne_eq_false_iff_eq.mpr c5
     clear c5
     (first | rw [c5b0] | (simp only [i64_w, i32_w]; rw [c5b0]) | skip)
     have H' := Aside0.mk H
     clear H
     go_wp2
     go_meet
     case rel => exact ⟨_, (((Int.tmod (rd l0 0) 16) == 5)), (by first | rfl | (simp; done) | (simp [*]; done)), H', ⟨by first | omega | exact Nat.le_refl _⟩, by repeat (first | exact Drawn0.refl _ | apply Drawn0.step)⟩
    ·rw [if_neg c5] at H
     have c5b0 : ((Int.tmod (rd l0 0) 16) == 5) = false := beq_eq_false_iff_ne.mpr c5
     have c5b1 : ((Int.tmod (rd l0 0) 16) != 5) = true := bne_iff_ne.mpr c5
     (first | rw [c5b0] | (simp only [i64_w, i32_w]; rw [c5b0]) | skip)
     by_cases c6 : (Int.tmod (rd l0 0) 16) = 6
     ·rw [if_pos c6] at H
      have c6b0 : ((Int.tmod (rd l0 0) 16) == 6) = true := beq_iff_eq.mpr c6
      have c6b1 : ((Int.tmod (rd l0 0) 16) != 6) = false := bne_eq_false_iff_eq.mpr c6
      clear c6
      have H' := Aside0.mk H
      clear H
      go_wp2
      go_meet
      case rel => exact ⟨_, (((Int.tmod (rd l0 0) 16) == 6)), (by first | rfl | (simp; done) | (simp [*]; done)), H', ⟨by first | omega | exact Nat.le_refl _⟩, by repeat (first | exact Drawn0.refl _ | apply Drawn0.step)⟩
     ·rw [if_neg c6] at H
      have c6b0 : ((Int.tmod (rd l0 0) 16) == 6) = false := beq_eq_false_iff_ne.mpr c6
      have c6b1 : ((Int.tmod (rd l0 0) 16) != 6) = true := bne_iff_ne.mpr c6
      by_cases c7 : (Int.tmod (rd l0 0) 16) = 7
      ·rw [if_pos c7] at H
       have c7b0 : ((Int.tmod (rd l0 0) 16) == 7) = true := beq_iff_eq.mpr c7
       have c7b1 : ((Int.tmod (rd l0 0) 16) != 7) = false := bne_eq_false_iff_eq.mpr c7
       clear c7
       have H' := Aside0.mk H
       clear H
       go_wp2
       go_meet
       case rel => exact ⟨_, (((Int.tmod (rd l0 0) 16) == 7)), (by first | rfl | (simp; done) | (simp [*]; done)), H', ⟨by first | omega | exact Nat.le_refl _⟩, by repeat (first | exact Drawn0.refl _ | apply Drawn0.step)⟩
      ·rw [if_neg c7] at H
       have c7b0 : ((Int.tmod (rd l0 0) 16) == 7) = false := beq_eq_false_iff_ne.mpr c7
       have c7b1 : ((Int.tmod (rd l0 0) 16) != 7) = true := bne_iff_ne.mpr c7
       by_cases c8 : (Int.tmod (rd l0 0) 16) = 8
       ·rw [if_pos c8] at H
        have c8b0 : ((Int.tmod (rd l0 0) 16) == 8) = true := beq_iff_eq.mpr c8
        have c8b1 : ((Int.tmod (rd l0 0) 16) != 8) = false := bne_eq_false_iff_eq.mpr c8
        clear c8
        have H' := Aside0.mk H
        clear H
        go_wp2
        go_meet
        case rel => exact ⟨_, (((Int.tmod (rd l0 0) 16) == 8)), (by first | rfl | (simp; done) | (simp [*]; done)), H', ⟨by first | omega | exact Nat.le_refl _⟩, by repeat (first | exact Drawn0.refl _ | apply Drawn0.step)⟩
       ·rw [if_neg c8] at H
        have c8b0 : ((Int.tmod (rd l0 0) 16) == 8) = false := beq_eq_false_iff_ne.mpr c8
        have c8b1 : ((Int.tmod (rd l0 0) 16) != 8) = true := bne_iff_ne.mpr c8
        have H' := Aside0.mk H
        clear H
        go_wp2
        go_meet
        case rel => exact ⟨_, (((Int.tmod (rd l0 0) 16) == 9)), (by first | rfl | (simp; done) | (simp [*]; done)), H', ⟨by first | omega | exact Nat.le_refl _⟩, by repeat (first | exact Drawn0.refl _ | apply Drawn0.step)⟩
   case rest =>
    clear HC4
    try clear c1
    try clear p1
    try clear q1
    try clear hx1
    try clear qi1
    try clear c2
    try clear c2b0
    try clear c2b1
    try clear p2
    try clear c3
    try clear c3b0
    try clear c3b1
    try clear c5
    try clear c5b0
    try clear c5b1
    try clear c6
    try clear c6b0
    try clear c6b1
    try clear c7
    try clear c7b0
    try clear c7b1
    try clear c8
    try clear c8b0
    try clear c8b1
    try clear hx189_0
    try clear p189
    try clear q189
    obtain ⟨kq, x9_3, rfl, HA, HJ3, ⟨mc3, rfl⟩⟩ := hcut
    cases kq with
    | zero => exact absurd HA.out (by simp [antipoderef29_long.j0])
    | succ kj3 =>
     have H := HA.out
     clear HA
     simp only [antipoderef29_long.j0] at H
     by_cases c9 : x9_3 = true
     ·subst c9
      have H1 : (some 2) = some r := by rw [if_pos rfl] at H; exact H
      clear H
      have H := H1
      clear H1
      obtain rfl := Option.some.inj H
      go_wp2
      go_ret
      exact ⟨by first | rfl | (simp; done) | (simp [*]; done), by repeat (first | exact Drawn0.refl _ | apply Drawn0.step)⟩
     ·replace c9 := Bool.eq_false_iff.mpr c9
      subst c9
      have H1 : (if (Int.tmod (rd l0 0) 16) = 10 then (if (l0.length : Int) < 3 then (some 0) else (if 2 < (l0.length : Int) then (some (wrap64 (3 + (wrap64 (rd l0 2))))) else (none))) else (if (Int.tmod (rd l0 0) 16) = 11 then (some 4) else (if (Int.tmod (rd l0 0) 16) = 13 then (some 3) else (if (Int.tmod (rd l0 0) 16) = 14 then (some 5) else (if (Int.tmod (rd l0 0) 16) = 15 then (some 1) else (some 2)))))) = some r := by rw [if_neg (show ¬ (false = true) by decide)] at H; exact H
      clear H
      have H := H1
      clear H1
      by_cases c10 : (Int.tmod (rd l0 0) 16) = 10
      ·rw [if_pos c10] at H
       have c10b0 : ((Int.tmod (rd l0 0) 16) == 10) = true := beq_iff_eq.mpr c10
       have c10b1 : ((Int.tmod (rd l0 0) 16) != 10) = false := bne_eq_false_iff_eq.mpr c10
       clear c10
       by_cases c11 : (l0.length : Int) < 3
       ·rw [if_pos c11] at H
        have c11b0 : decide ((l0.length : Int) < 3) = true := decide_eq_true c11
        have c11b1 : decide (l0.length < 3) = true := decide_eq_true (by omega)
        clear c11
        obtain rfl := Option.some.inj H
        go_wp2
        go_ret
        exact ⟨by first | rfl | (simp; done) | (simp [*]; done), by repeat (first | exact Drawn0.refl _ | apply Drawn0.step)⟩
       ·rw [if_neg c11] at H
        have c11b0 : decide ((l0.length : Int) < 3) = false := decide_eq_false c11
        have c11b1 : decide (l0.length < 3) = false := decide_eq_false (by omega)
        clear c11
        by_cases c12 : 2 < (l0.length : Int)
        ·rw [if_pos c12] at H
         have c12b0 : decide (2 < (l0.length : Int)) = true := decide_eq_true c12
         have c12b1 : decide (2 < l0.length) = true := decide_eq_true (by omega)
         clear c12
         obtain rfl := Option.some.inj H
         have p190 : 0 ≤ (2 : Int) := (by omega)
         have q190 : 2 < (l0.length : Int) := of_decide_eq_true (by first | (with_reducible assumption) | assumption)
         obtain ⟨ad190, e190, hx190_0⟩ := Kd.at_int HR0.out 2 p190 q190
         obtain rfl : ad189 = ad190 := (by injection e190)
         (try simp only [show (2 : Int).toNat = 2 from rfl, Nat.reduceMul, Nat.reduceEqDiff, Go.Addr.add, ↓reduceIte] at hx190_0)
         have qi190 : (2 < l0.length) = True := eq_true (by omega)
         (try rw [show ((2 : Int)).toNat = 2 from rfl] at hx190_0)
         replace p190 := eq_true p190
         replace q190 := eq_true q190
         go_wp2
         go_ret
         exact ⟨by first | rfl | (simp; done) | (simp [*]; done), by repeat (first | exact Drawn0.refl _ | apply Drawn0.step)⟩
        ·rw [if_neg c12] at H
         exact absurd H (by simp)
      ·rw [if_neg c10] at H
       have c10b0 : ((Int.tmod (rd l0 0) 16) == 10) = false := beq_eq_false_iff_ne.mpr c10
       have c10b1 : ((Int.tmod (rd l0 0) 16) != 10) = true := bne_iff_ne.mpr c10
       by_cases c13 : (Int.tmod (rd l0 0) 16) = 11
       ·rw [if_pos c13] at H
        have c13b0 : ((Int.tmod (rd l0 0) 16) == 11) = true := beq_iff_eq.mpr c13
        have c13b1 : ((Int.tmod (rd l0 0) 16) != 11) = false := bne_eq_false_iff_eq.mpr c13
        clear c13
        obtain rfl := Option.some.inj H
        go_wp2
        go_ret
        exact ⟨by first | rfl | (simp; done) | (simp [*]; done), by repeat (first | exact Drawn0.refl _ | apply Drawn0.step)⟩
       ·rw [if_neg c13] at H
        have c13b0 : ((Int.tmod (rd l0 0) 16) == 11) = false := beq_eq_false_iff_ne.mpr c13
        have c13b1 : ((Int.tmod (rd l0 0) 16) != 11) = true := bne_iff_ne.mpr c13
        by_cases c14 : (Int.tmod (rd l0 0) 16) = 13
        ·rw [if_pos c14] at H
         have c14b0 : ((Int.tmod (rd l0 0) 16) == 13) = true := beq_iff_eq.mpr c14
         have c14b1 : ((Int.tmod (rd l0 0) 16) != 13) = false := bne_eq_false_iff_eq.mpr c14
         clear c14
         obtain rfl := Option.some.inj H
         go_wp2
         go_ret
         exact ⟨by first | rfl | (simp; done) | (simp [*]; done), by repeat (first | exact Drawn0.refl _ | apply Drawn0.step)⟩
        ·rw [if_neg c14] at H
         have c14b0 : ((Int.tmod (rd l0 0) 16) == 13) = false := beq_eq_false_iff_ne.mpr c14
         have c14b1 : ((Int.tmod (rd l0 0) 16) != 13) = true := bne_iff_ne.mpr c14
         by_cases c15 : (Int.tmod (rd l0 0) 16) = 14
         ·rw [if_pos c15] at H
          have c15b0 : ((Int.tmod (rd l0 0) 16) == 14) = true := beq_iff_eq.mpr c15
          have c15b1 : ((Int.tmod (rd l0 0) 16) != 14) = false := bne_eq_false_iff_eq.mpr c15
          clear c15
          obtain rfl := Option.some.inj H
          go_wp2
          go_ret
          exact ⟨by first | rfl | (simp; done) | (simp [*]; done), by repeat (first | exact Drawn0.refl _ | apply Drawn0.step)⟩
         ·rw [if_neg c15] at H
          have c15b0 : ((Int.tmod (rd l0 0) 16) == 14) = false := beq_eq_false_iff_ne.mpr c15
          have c15b1 : ((Int.tmod (rd l0 0) 16) != 14) = true := bne_iff_ne.mpr c15
          by_cases c16 : (Int.tmod (rd l0 0) 16) = 15
          ·rw [if_pos c16] at H
           have c16b0 : ((Int.tmod (rd l0 0) 16) == 15) = true := beq_iff_eq.mpr c16
           have c16b1 : ((Int.tmod (rd l0 0) 16) != 15) = false := bne_eq_false_iff_eq.mpr c16
           clear c16
           obtain rfl := Option.some.inj H
           go_wp2
           go_ret
           exact ⟨by first | rfl | (simp; done) | (simp [*]; done), by repeat (first | exact Drawn0.refl _ | apply Drawn0.step)⟩
          ·rw [if_neg c16] at H
           have c16b0 : ((Int.tmod (rd l0 0) 16) == 15) = false := beq_eq_false_iff_ne.mpr c16
           have c16b1 : ((Int.tmod (rd l0 0) 16) != 15) = true := bne_iff_ne.mpr c16
           obtain rfl := Option.some.inj H
           go_wp2
           go_ret
           exact ⟨by first | rfl | (simp; done) | (simp [*]; done), by repeat (first | exact Drawn0.refl _ | apply Drawn0.step)⟩
 ·rw [if_neg c2] at H
  exact absurd H (by simp)

end Go.Proofs.Ytpoejopnjkcdpaa.QA

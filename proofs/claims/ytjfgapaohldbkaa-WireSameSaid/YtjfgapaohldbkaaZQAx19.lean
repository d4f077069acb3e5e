/- Written by a program of this session (wip/myprint.sh): contracts of Go functions of the translation: each call comes to what the Lean function of its name says. -/
import Derived.Test.YtjfgapaohldbkaaZQAll
import Derived.Test.YtjfgapaohldbkaaZQAx7
import Derived.Test.YtjfgapaohldbkaaZQAx10
import Derived.Test.YtjfgapaohldbkaaZQAx18
namespace Go.Proofs.Ytjfgapaohldbkaa.QA
open Go.RowKit Go.Proofs.YtjfgapaohldbkaaW.PrintWords Go.Proofs.YtjfgapaohldbkaaW.PrintLast Go.Proofs.YtjfgapaohldbkaaW.PrintMore
attribute [local go_sem] max2_int min2_int max_two min_two max_three min_three max_four min_four   -- for this text's walks alone
set_option linter.unusedVariables false
set_option linter.unusedSimpArgs false
attribute [local go_sem high] eqA78
mutual
def antipoderef1_Get.j0 : Nat → List Int → Int → Int → Bool → Option (Int × Int)
 | 0, _, _, _, _ => none
 | k + 1, x0, x1, x2, x19 => if x19 = true then (some (0, 1)) else (if x1 > (x0.length : Int) then (antipoderef1_Get.j1 k x0 x1 x2 true) else (antipoderef1_Get.j1 k x0 x1 x2 (decide ((wrap64 ((x0.length : Int) - x1)) < x2))))
def antipoderef1_Get.j1 : Nat → List Int → Int → Int → Bool → Option (Int × Int)
 | 0, _, _, _, _ => none
 | k + 1, x0, x1, x2, x31 => if x31 = true then (some (0, 2)) else (antipoderef1_Get.l0 k x0 x1 x2 0 0)
def antipoderef1_Get.l0 : Nat → List Int → Int → Int → Int → Int → Option (Int × Int)
 | 0, _, _, _, _, _ => none
 | k + 1, x0, x1, x2, x8, x9 => if x9 < x2 then (if 0 ≤ (wrap64 (x1 + x9)) then (if (wrap64 (x1 + x9)) < (x0.length : Int) then (antipoderef1_Get.l0 k x0 x1 x2 (IntKind.u64.wrap ((IntKind.u64.wrap (x8 * 256)) + (IntKind.u64.wrap (rd x0 (wrap64 (x1 + x9)))))) (wrap64 (x9 + 1))) else (none)) else (none)) else (some (x8, 0))
end
def bits_TakeText.f (k : Nat) (l0 : List Int) : Option (List Int × Int × Int) := (bits_TakeVar.f k l0).bind fun bt582 => (if bt582.2.2 = 0 then (if bt582.1 > 1048576 then (some (([] : List Int), 0, 3)) else (if bt582.1 > (IntKind.u64.wrap (wrap64 ((l0.length : Int) - bt582.2.1))) then (some (([] : List Int), 0, 2)) else (if 0 ≤ bt582.2.1 then (if bt582.2.1 ≤ (wrap64 (bt582.2.1 + (wrap64 (bt582.1)))) then (if (wrap64 (bt582.2.1 + (wrap64 (bt582.1)))) ≤ (l0.length : Int) then ((bits_room.f ((l0.take ((wrap64 (bt582.2.1 + (wrap64 (bt582.1)))) : Int).toNat).drop (bt582.2.1 : Int).toNat) 0).bind fun t589 => (some (t589, wrap64 (bt582.2.1 + (wrap64 (bt582.1))), 0))) else (none)) else (none)) else (none)))) else (some (([] : List Int), 0, bt582.2.2)))
set_option maxHeartbeats 8000000 in
set_option maxRecDepth 100000 in
theorem bits_TakeText.calls (k : Nat) (A0 : Option Addr) (c0 : Nat) (l0 : List Int) (r1 : List Int) (r2 : Int) (r3 : Int) (w : World) (hr0 : Kd.C (Kd.int .u8) w A0 l0.length l0) (hc0 : l0.length ≤ c0) (h : bits_TakeText.f k l0 = some (r1, r2, r3)) :
  Calls Try.prog 95 #[.slice A0 l0.length c0] w fun e w' => ∃ v0_ : Value, e = .returned (.tuple #[v0_, .int .i64 r2, .int .i64 r3]) ∧ Kd.R (Kd.int .u8) 5 w' w.heap.size (fun _ => True) v0_ r1 ∧ Below w.heap.size w w' := by
 have HR0 := Aside0.mk hr0
 have HC0 := Aside0.mk hc0
 clear hr0 hc0
 have HB := Aside0.mk (Below.refl w.heap.size w)
 have H : ((bits_TakeVar.f k l0).bind fun bt582 => (if bt582.2.2 = 0 then (if bt582.1 > 1048576 then (some (([] : List Int), 0, 3)) else (if bt582.1 > (IntKind.u64.wrap (wrap64 ((l0.length : Int) - bt582.2.1))) then (some (([] : List Int), 0, 2)) else (if 0 ≤ bt582.2.1 then (if bt582.2.1 ≤ (wrap64 (bt582.2.1 + (wrap64 (bt582.1)))) then (if (wrap64 (bt582.2.1 + (wrap64 (bt582.1)))) ≤ (l0.length : Int) then ((bits_room.f ((l0.take ((wrap64 (bt582.2.1 + (wrap64 (bt582.1)))) : Int).toNat).drop (bt582.2.1 : Int).toNat) 0).bind fun t589 => (some (t589, wrap64 (bt582.2.1 + (wrap64 (bt582.1))), 0))) else (none)) else (none)) else (none)))) else (some (([] : List Int), 0, bt582.2.2)))) = some (r1, r2, r3) := h
 clear h
 replace H := Option.bind_eq_some_iff.mp H
 obtain ⟨⟨t582, t583, t584⟩, A20, H⟩ := H
 replace H : (if t584 = 0 then (if t582 > 1048576 then (some (([] : List Int), 0, 3)) else (if t582 > (IntKind.u64.wrap (wrap64 ((l0.length : Int) - t583))) then (some (([] : List Int), 0, 2)) else (if 0 ≤ t583 then (if t583 ≤ (wrap64 (t583 + (wrap64 (t582)))) then (if (wrap64 (t583 + (wrap64 (t582)))) ≤ (l0.length : Int) then ((bits_room.f ((l0.take ((wrap64 (t583 + (wrap64 (t582)))) : Int).toNat).drop (t583 : Int).toNat) 0).bind fun t589 => (some (t589, wrap64 (t583 + (wrap64 (t582))), 0))) else (none)) else (none)) else (none)))) else (some (([] : List Int), 0, t584))) = some (r1, r2, r3) := H
 have A2 := Aside0.mk A20
 clear A20
 by_cases c3 : t584 = 0
 ·rw [if_pos c3] at H
  have c3b0 : (t584 == 0) = true := beq_iff_eq.mpr c3
  have c3b1 : (t584 != 0) = false := bne_eq_false_iff_eq.mpr c3
  clear c3
  by_cases c4 : t582 > 1048576
  ·rw [if_pos c4] at H
   have c4b0 : decide (1048576 < t582) = true := decide_eq_true c4
   clear c4
   simp only [Option.some.injEq, Prod.mk.injEq] at H
   obtain ⟨rfl, rfl, rfl⟩ := H
   go_enter Try.func95, Try.ntmps95
   go_wp2_with (first | ((with_reducible refine gate_callee (f := 93) rfl ?_); refine qL (some 9) Try.func93 #[.slice A0 l0.length c0] ?_; (with_reducible refine (bits_TakeVar.calls k _ _ l0 t582 t583 t584 _ ?side1 ?side2 A2.out).mono ?_); (case side1 => exact qC HR0.out); (case side2 => exact HC0.out); rintro e w' ⟨rfl, ⟨nd, rfl⟩⟩; refine ⟨_, rfl, ?_⟩))
   go_ret3
   exact ⟨_, by first | rfl | (simp [errW_none, errW_some] <;> rfl) | (simp [*, errW_none, errW_some] <;> rfl), by first | exact Kd.R_nil _ _ _ _ _ | exact Kd.N_nil _ _ _ _ _ | exact Kd.V_nil _ _ _ _ _ | exact Kd.Q_nil _ _ _ _ _ | exact Kd.S_nil _ _ _ _ _, qB HB.out⟩
  ·rw [if_neg c4] at H
   have c4b0 : decide (1048576 < t582) = false := decide_eq_false c4
   clear c4
   by_cases c5 : t582 > (IntKind.u64.wrap (wrap64 ((l0.length : Int) - t583)))
   ·rw [if_pos c5] at H
    have c5b0 : decide ((IntKind.u64.wrap (wrap64 ((l0.length : Int) - t583))) < t582) = true := decide_eq_true c5
    clear c5
    simp only [Option.some.injEq, Prod.mk.injEq] at H
    obtain ⟨rfl, rfl, rfl⟩ := H
    go_enter Try.func95, Try.ntmps95
    go_wp2_with (first | ((with_reducible refine gate_callee (f := 93) rfl ?_); refine qL (some 9) Try.func93 #[.slice A0 l0.length c0] ?_; (with_reducible refine (bits_TakeVar.calls k _ _ l0 t582 t583 t584 _ ?side1 ?side2 A2.out).mono ?_); (case side1 => exact qC HR0.out); (case side2 => exact HC0.out); rintro e w' ⟨rfl, ⟨nd, rfl⟩⟩; refine ⟨_, rfl, ?_⟩))
    go_ret3
    exact ⟨_, by first | rfl | (simp [errW_none, errW_some] <;> rfl) | (simp [*, errW_none, errW_some] <;> rfl), by first | exact Kd.R_nil _ _ _ _ _ | exact Kd.N_nil _ _ _ _ _ | exact Kd.V_nil _ _ _ _ _ | exact Kd.Q_nil _ _ _ _ _ | exact Kd.S_nil _ _ _ _ _, qB HB.out⟩
   ·rw [if_neg c5] at H
    have c5b0 : decide ((IntKind.u64.wrap (wrap64 ((l0.length : Int) - t583))) < t582) = false := decide_eq_false c5
    clear c5
    by_cases c6 : 0 ≤ t583
    ·rw [if_pos c6] at H
     have c6b0 := eq_true c6
     have c6b1 : decide (0 ≤ t583) = true := decide_eq_true c6
     clear c6
     by_cases c7 : t583 ≤ (wrap64 (t583 + (wrap64 (t582))))
     ·rw [if_pos c7] at H
      have c7b0 := eq_true c7
      have c7b1 : decide (t583 ≤ (wrap64 (t583 + (wrap64 (t582))))) = true := decide_eq_true c7
      by_cases c8 : (wrap64 (t583 + (wrap64 (t582)))) ≤ (l0.length : Int)
      ·rw [if_pos c8] at H
       have c8b0 := eq_true c8
       have c8b1 : decide ((wrap64 (t583 + (wrap64 (t582)))) ≤ (l0.length : Int)) = true := decide_eq_true c8
       obtain ⟨y585, hy585⟩ : ∃ y_ : List Int, y_ = ((l0.take ((wrap64 (t583 + (wrap64 (t582)))) : Int).toNat).drop (t583 : Int).toNat) := ⟨_, rfl⟩
       replace H : ((bits_room.f y585 0).bind fun t589 => (some (t589, wrap64 (t583 + (wrap64 (t582))), 0))) = some (r1, r2, r3) := by first | (rw [hy585]; with_reducible exact H) | (have H2_ := (Option.bind_some _ _).symm.trans H; rw [hy585]; with_reducible exact H2_) | (have H2_ := (Option.bind_some _ _).symm.trans H; with_reducible exact H2_) | with_reducible exact H | (rw [hy585]; exact H) | exact H
       have Ny585 := Aside0.mk hy585
       clear hy585
       replace H := Option.bind_eq_some_iff.mp H
       obtain ⟨t589, A90, H⟩ := H
       replace H : (some (t589, wrap64 (t583 + (wrap64 (t582))), 0)) = some (r1, r2, r3) := H
       have A9 := Aside0.mk A90
       clear A90
       simp only [Option.some.injEq, Prod.mk.injEq] at H
       obtain ⟨rfl, rfl, rfl⟩ := H
       go_enter Try.func95, Try.ntmps95
       go_wp2_with (first | ((with_reducible refine gate_callee (f := 93) rfl ?_); refine qL (some 9) Try.func93 #[.slice A0 l0.length c0] ?_; (with_reducible refine (bits_TakeVar.calls k _ _ l0 t582 t583 t584 _ ?side1 ?side2 A2.out).mono ?_); (case side1 => exact qC HR0.out); (case side2 => exact HC0.out); rintro e w' ⟨rfl, ⟨nd, rfl⟩⟩; refine ⟨_, rfl, ?_⟩; have q10 : ((wrap64 (t583 + (wrap64 (t582)))) : Int) ≤ ((l0.length : Int) : Int) := of_decide_eq_true (by first | (with_reducible assumption) | assumption); obtain ⟨i010, hi010, _, hsz10, _⟩ := info_parts info5; have hroom10 : l0.length ≤ c0 := HC0.out; have hC10 : Kd.C (Kd.int .u8) _ A0 l0.length l0 := HR0.out; have ql10 : (t583 : Int) ≤ ((wrap64 (t583 + (wrap64 (t582)))) : Int) := of_decide_eq_true (by first | (with_reducible assumption) | assumption); have q010 : (0 : Int) ≤ (t583 : Int) := of_decide_eq_true (by first | (with_reducible assumption) | assumption); have hcut10 := cut_mid (P := Try.prog) 46 5 .i64 .i64 Try.underlying46 hi010 1 hsz10 A0 l0.length c0 t583 (wrap64 (t583 + (wrap64 (t582)))) q010 ql10 q10 hroom10; have hr10 := Kd.C_mid (lo := (t583 : Int).toNat) (hi := ((wrap64 (t583 + (wrap64 (t582)))) : Int).toNat) (c := c0) hC10 (by omega) (by omega) hroom10; obtain ⟨A10, hA10⟩ : ∃ A1, A1 = (if c0 = (t583 : Int).toNat then A0 else (A0 : Option Addr).map (·.add ((t583 : Int).toNat * 1))) := ⟨_, rfl⟩; obtain ⟨c10, hc10⟩ : ∃ c1, c1 = c0 - (t583 : Int).toNat := ⟨_, rfl⟩; have hy10 : y585.length = ((wrap64 (t583 + (wrap64 (t582)))) : Int).toNat - (t583 : Int).toNat := (by rw [Ny585.out, List.length_drop, List.length_take] <;> omega); rw [show ((l0).take ((wrap64 (t583 + (wrap64 (t582)))) : Int).toNat).drop (t583 : Int).toNat = y585 from Ny585.out.symm] at hr10; replace hr10 : Kd.C (Kd.int .u8) _ A10 y585.length y585 := (by rw [hA10]; exact hr10); rw [← hy10, ← hA10, ← hc10] at hcut10; have HR588 := Aside0.mk hr10; have HC588 := Aside0.mk (show y585.length ≤ c10 from by rw [hy10, hc10]; exact Nat.sub_le_sub_right (Nat.le_trans (by omega) hroom10) _); clear hr10 hC10 hroom10 hi010 hsz10 hc10; have KY10 := Aside0.mk hy10; have KA10 := Aside0.mk hA10; clear hy10 hA10; replace q10 := eq_true q10) | ((with_reducible refine gate_callee (f := 84) rfl ?_); refine qL (some 36) Try.func84 #[.slice A10 y585.length c10, .int .i64 0] ?_; (with_reducible refine (bits_room.calls _ _ y585 0 t589 _ ?side1 ?side2 A9.out).mono ?_); (case side1 => exact qC HR588.out); (case side2 => exact HC588.out); rintro e w11 ⟨v590, rfl, ho0, hb⟩; refine ⟨_, rfl, ?_⟩; have HO591 := Aside0.mk (Kd.R_lower ho0 (below_size (qB HB.out))); replace HB := Aside0.mk (below_step (qB HB.out) hb); (try clear hb); (try clear hb2); (try clear hk); (try clear hi); (try clear ho0)))
       go_ret3
       exact ⟨_, by first | rfl | (simp [errW_none, errW_some] <;> rfl) | (simp [*, errW_none, errW_some] <;> rfl), qR HO591.out, qB HB.out⟩
      ·rw [if_neg c8] at H
       exact absurd H (by simp)
     ·rw [if_neg c7] at H
      exact absurd H (by simp)
    ·rw [if_neg c6] at H
     exact absurd H (by simp)
 ·rw [if_neg c3] at H
  have c3b0 : (t584 == 0) = false := beq_eq_false_iff_ne.mpr c3
  have c3b1 : (t584 != 0) = true := bne_iff_ne.mpr c3
  simp only [Option.some.injEq, Prod.mk.injEq] at H
  obtain ⟨rfl, rfl, rfl⟩ := H
  go_enter Try.func95, Try.ntmps95
  go_wp2_with (first | ((with_reducible refine gate_callee (f := 93) rfl ?_); refine qL (some 9) Try.func93 #[.slice A0 l0.length c0] ?_; (with_reducible refine (bits_TakeVar.calls k _ _ l0 t582 t583 t584 _ ?side1 ?side2 A2.out).mono ?_); (case side1 => exact qC HR0.out); (case side2 => exact HC0.out); rintro e w' ⟨rfl, ⟨nd, rfl⟩⟩; refine ⟨_, rfl, ?_⟩))
  go_ret3
  exact ⟨_, by first | rfl | (simp [errW_none, errW_some] <;> rfl) | (simp [*, errW_none, errW_some] <;> rfl), by first | exact Kd.R_nil _ _ _ _ _ | exact Kd.N_nil _ _ _ _ _ | exact Kd.V_nil _ _ _ _ _ | exact Kd.Q_nil _ _ _ _ _ | exact Kd.S_nil _ _ _ _ _, qB HB.out⟩
def api_Version.l0 : Nat → List (S78) → List (S78) → Int → Int → Option (Bool)
 | 0, _, _, _, _ => none
 | k + 1, x0, x1, x12, x13 => if x13 < x12 then (if 0 ≤ x13 then (if x13 < (x0.length : Int) then (if x13 < (x1.length : Int) then (if ((!(((rd_T78 x0 x13).f0.f0) == ((rd_T78 x1 x13).f0.f0)) || (!(((rd_T78 x0 x13).f0.f1) == ((rd_T78 x1 x13).f0.f1)))) || (!(((rd_T78 x0 x13).f1) == ((rd_T78 x1 x13).f1)) || (!((((rd_T78 x0 x13).f2).toList) == (((rd_T78 x1 x13).f2).toList))))) = true then (some false) else (api_Version.l0 k x0 x1 x12 (wrap64 (x13 + 1)))) else (none)) else (none)) else (none)) else (some true)
def api_Version.f (k : Nat) (l0 : List (S78)) (l1 : List (S78)) : Option (Bool) := if (l0.length : Int) = (l1.length : Int) then (api_Version.l0 k l0 l1 (l0.length : Int) 0) else (some false)
set_option maxHeartbeats 8000000 in
set_option maxRecDepth 100000 in
theorem api_Version.calls (k : Nat) (A0 : Option Addr) (c0 : Nat) (l0 : List (S78)) (A1 : Option Addr) (c1 : Nat) (l1 : List (S78)) (r : Bool) (w : World) (hr0 : Kd.C k78 w A0 l0.length l0) (hc0 : l0.length ≤ c0) (hr1 : Kd.C k78 w A1 l1.length l1) (hc1 : l1.length ≤ c1) (h : api_Version.f k l0 l1 = some r) :
  Calls Try.prog 35 #[.slice A0 l0.length c0, .slice A1 l1.length c1] w fun e w' => e = .returned (.bool r) ∧ Drawn0 w w' := by
 have hu78 := Try.underlying78
 have HR0 := Aside0.mk hr0
 have HC0 := Aside0.mk hc0
 clear hr0 hc0
 have HR1 := Aside0.mk hr1
 have HC1 := Aside0.mk hc1
 clear hr1 hc1
 have H : (if (l0.length : Int) = (l1.length : Int) then (api_Version.l0 k l0 l1 (l0.length : Int) 0) else (some false)) = some r := h
 clear h
 by_cases c3 : (l0.length : Int) = (l1.length : Int)
 ·rw [if_pos c3] at H
  have c3b0 : ((l0.length : Int) == (l1.length : Int)) = true := beq_iff_eq.mpr c3
  have c3b1 : ((l0.length : Int) != (l1.length : Int)) = false := bne_eq_false_iff_eq.mpr c3
  have c3b2 : (l0.length == l1.length) = true := by first | simpa using c3 | (simp at c3 ⊢; omega)
  clear c3
  have H' := Aside0.mk H
  clear H
  go_enter Try.func35, Try.ntmps35
  go_wp2
  repeat (go_quiet (fail); try go_wp2)
  go_loopg [13] k (fun kq v13 w' => ∃ (x13_1 : Int), v13 = .int .i64 x13_1 ∧ Aside0 (api_Version.l0 kq l0 l1 (l0.length : Int) x13_1 = some r) ∧ Aside0 (kq ≤ k) ∧ Drawn0 w w')
  case atStart => exact ⟨(0), (by first | rfl | (simp; done) | (simp [*]; done)), H', ⟨Nat.le_refl _⟩, by repeat (first | exact Drawn0.refl _ | apply Drawn0.step)⟩
  case round =>
   clear H'
   try clear c1
   try clear p2
   try clear c3
   try clear c3b0
   try clear c3b1
   try clear c3b2
   obtain ⟨x13_1, rfl, HA, HK1, ⟨m1, rfl⟩⟩ := hrel
   cases gk with
   | zero => exact absurd HA.out (by simp [api_Version.l0])
   | succ k1 =>
    have H := HA.out
    clear HA
    simp only [api_Version.l0] at H
    by_cases c4 : x13_1 < (l0.length : Int)
    ·rw [if_pos c4] at H
     have c4b0 : decide (x13_1 < (l0.length : Int)) = true := decide_eq_true c4
     clear c4
     by_cases c5 : 0 ≤ x13_1
     ·rw [if_pos c5] at H
      have c5b0 : decide (0 ≤ x13_1) = true := decide_eq_true c5
      clear c5
      by_cases c6 : x13_1 < (l0.length : Int)
      ·rw [if_pos c6] at H
       have c6b0 : decide (x13_1 < (l0.length : Int)) = true := decide_eq_true c6
       clear c6
       by_cases c7 : x13_1 < (l1.length : Int)
       ·rw [if_pos c7] at H
        have c7b0 : decide (x13_1 < (l1.length : Int)) = true := decide_eq_true c7
        clear c7
        by_cases c8 : ((!(((rd_T78 l0 x13_1).f0.f0) == ((rd_T78 l1 x13_1).f0.f0)) || (!(((rd_T78 l0 x13_1).f0.f1) == ((rd_T78 l1 x13_1).f0.f1)))) || (!(((rd_T78 l0 x13_1).f1) == ((rd_T78 l1 x13_1).f1)) || (!((((rd_T78 l0 x13_1).f2).toList) == (((rd_T78 l1 x13_1).f2).toList))))) = true
        ·rw [if_pos c8] at H
         have c8b0 : ((!(((rd_T78 l0 x13_1).f0.f0) == ((rd_T78 l1 x13_1).f0.f0)) || (!(((rd_T78 l0 x13_1).f0.f1) == ((rd_T78 l1 x13_1).f0.f1)))) || (!(((rd_T78 l0 x13_1).f1) == ((rd_T78 l1 x13_1).f1)) || (!((((rd_T78 l0 x13_1).f2).toList) == (((rd_T78 l1 x13_1).f2).toList))))) = true := c8
         clear c8
         obtain rfl := Option.some.inj H
         have p592 : 0 ≤ (x13_1 : Int) := of_decide_eq_true (by first | (with_reducible assumption) | assumption)
         have q592 : x13_1 < (l0.length : Int) := of_decide_eq_true (by first | (with_reducible assumption) | assumption)
         obtain ⟨ad592, e592, hx592_0, hx592_1, hx592_2, hx592_3⟩ := at_T78 HR0.out x13_1 p592 q592
         cases e592
         replace p592 := eq_true p592
         replace q592 := eq_true q592
         have p593 : 0 ≤ (x13_1 : Int) := of_decide_eq_true (by first | (with_reducible assumption) | assumption)
         have q593 : x13_1 < (l1.length : Int) := of_decide_eq_true (by first | (with_reducible assumption) | assumption)
         obtain ⟨ad593, e593, hx593_0, hx593_1, hx593_2, hx593_3⟩ := at_T78 HR1.out x13_1 p593 q593
         cases e593
         replace p593 := eq_true p593
         replace q593 := eq_true q593
         go_wp2
         repeat (go_quiet (fail); try go_wp2)
         go_ret
         exact ⟨by first | rfl | (simp; done) | (simp [*]; done), by repeat (first | exact Drawn0.refl _ | apply Drawn0.step)⟩
        ·rw [if_neg c8] at H
         have c8b0 : ((!(((rd_T78 l0 x13_1).f0.f0) == ((rd_T78 l1 x13_1).f0.f0)) || (!(((rd_T78 l0 x13_1).f0.f1) == ((rd_T78 l1 x13_1).f0.f1)))) || (!(((rd_T78 l0 x13_1).f1) == ((rd_T78 l1 x13_1).f1)) || (!((((rd_T78 l0 x13_1).f2).toList) == (((rd_T78 l1 x13_1).f2).toList))))) = false := by simpa using c8
         clear c8
         have H' := Aside0.mk H
         clear H
         have p592 : 0 ≤ (x13_1 : Int) := of_decide_eq_true (by first | (with_reducible assumption) | assumption)
         have q592 : x13_1 < (l0.length : Int) := of_decide_eq_true (by first | (with_reducible assumption) | assumption)
         obtain ⟨ad592, e592, hx592_0, hx592_1, hx592_2, hx592_3⟩ := at_T78 HR0.out x13_1 p592 q592
         cases e592
         replace p592 := eq_true p592
         replace q592 := eq_true q592
         have p593 : 0 ≤ (x13_1 : Int) := of_decide_eq_true (by first | (with_reducible assumption) | assumption)
         have q593 : x13_1 < (l1.length : Int) := of_decide_eq_true (by first | (with_reducible assumption) | assumption)
         obtain ⟨ad593, e593, hx593_0, hx593_1, hx593_2, hx593_3⟩ := at_T78 HR1.out x13_1 p593 q593
         cases e593
         replace p593 := eq_true p593
         replace q593 := eq_true q593
         go_wp2
         repeat (go_quiet (fail); try go_wp2)
         go_roundg k1
         case measure => have := HK1.out; omega
         case rel => exact ⟨(wrap64 (x13_1 + 1)), (by first | rfl | (simp; done) | (simp [*]; done)), H', ⟨by have := HK1.out; omega⟩, by repeat (first | exact Drawn0.refl _ | apply Drawn0.step)⟩
       ·rw [if_neg c7] at H
        exact absurd H (by simp)
      ·rw [if_neg c6] at H
       exact absurd H (by simp)
     ·rw [if_neg c5] at H
      exact absurd H (by simp)
    ·rw [if_neg c4] at H
     have c4b0 : decide (x13_1 < (l0.length : Int)) = false := decide_eq_false c4
     clear c4
     obtain rfl := Option.some.inj H
     go_wp2
     repeat (go_quiet (fail); try go_wp2)
     go_ret
     exact ⟨by first | rfl | (simp; done) | (simp [*]; done), by repeat (first | exact Drawn0.refl _ | apply Drawn0.step)⟩
 ·rw [if_neg c3] at H
  have c3b0 : ((l0.length : Int) == (l1.length : Int)) = false := beq_eq_false_iff_ne.mpr c3
  have c3b1 : ((l0.length : Int) != (l1.length : Int)) = true := bne_iff_ne.mpr c3
  have c3b2 : (l0.length == l1.length) = false := by first | simpa using c3 | (simp at c3 ⊢; omega)
  obtain rfl := Option.some.inj H
  go_enter Try.func35, Try.ntmps35
  go_wp2
  repeat (go_quiet (fail); try go_wp2)
  go_ret
  exact ⟨by first | rfl | (simp; done) | (simp [*]; done), by repeat (first | exact Drawn0.refl _ | apply Drawn0.step)⟩
end Go.Proofs.Ytjfgapaohldbkaa.QA


/- Written by a program of this session (wip/myprint.sh): contracts of Go functions of the translation: each call comes to what the Lean function of its name says. -/
import Derived.Test.YtpoejopnjkcdpaaZQAx0
import Derived.Test.YtpoejopnjkcdpaaZQAx7
namespace Go.Proofs.Ytpoejopnjkcdpaa.QA
open Go.RowKit Go.Proofs.YtpoejopnjkcdpaaW.PrintWords Go.Proofs.YtpoejopnjkcdpaaW.PrintLast Go.Proofs.YtpoejopnjkcdpaaW.PrintMore
attribute [local go_sem] max2_int min2_int max_two min_two max_three min_three max_four min_four   -- for this text's walks alone
set_option linter.unusedVariables false
set_option linter.unusedSimpArgs false
def antipoderef29_long.j0 : Nat → List Int → Int → Bool → Option (Int)
 | 0, _, _, _ => none
 | k + 1, x0, x6, x9 => if x9 = true then (some 2) else (if x6 = 10 then (if (x0.length : Int) < 3 then (some 0) else (if 2 < (x0.length : Int) then (some (wrap64 (3 + (wrap64 (rd x0 2))))) else (none))) else (if x6 = 11 then (some 4) else (if x6 = 13 then (some 3) else (if x6 = 14 then (some 5) else (if x6 = 15 then (some 1) else (some 2))))))
def antipoderef29_long.f (k : Nat) (l0 : List Int) : Option (Int) := if 0 < (l0.length : Int) then (if (Int.tmod (rd l0 0) 16) = 4 then (some 4) else (if (Int.tmod (rd l0 0) 16) = 5 then (antipoderef29_long.j0 k l0 (Int.tmod (rd l0 0) 16) ((Int.tmod (rd l0 0) 16) == 5)) else (if (Int.tmod (rd l0 0) 16) = 6 then (antipoderef29_long.j0 k l0 (Int.tmod (rd l0 0) 16) ((Int.tmod (rd l0 0) 16) == 6)) else (if (Int.tmod (rd l0 0) 16) = 7 then (antipoderef29_long.j0 k l0 (Int.tmod (rd l0 0) 16) ((Int.tmod (rd l0 0) 16) == 7)) else (if (Int.tmod (rd l0 0) 16) = 8 then (antipoderef29_long.j0 k l0 (Int.tmod (rd l0 0) 16) ((Int.tmod (rd l0 0) 16) == 8)) else (antipoderef29_long.j0 k l0 (Int.tmod (rd l0 0) 16) ((Int.tmod (rd l0 0) 16) == 9))))))) else (none)
set_option maxHeartbeats 8000000 in
set_option maxRecDepth 100000 in
theorem antipoderef29_long.calls (k : Nat) (A0 : Option Addr) (c0 : Nat) (l0 : List Int) (r : Int) (w : World) (hr0 : Kd.C (Kd.int .u8) w A0 l0.length l0) (hc0 : l0.length ≤ c0) (h : antipoderef29_long.f k l0 = some r) :
  Calls Try.prog 19 #[.slice A0 l0.length c0] w fun e w' => e = .returned (.int .i64 r) ∧ Drawn0 w w' := by
 have HR0 := Aside0.mk hr0
 have HC0 := Aside0.mk hc0
 clear hr0 hc0
 have H : (if 0 < (l0.length : Int) then (if (Int.tmod (rd l0 0) 16) = 4 then (some 4) else (if (Int.tmod (rd l0 0) 16) = 5 then (antipoderef29_long.j0 k l0 (Int.tmod (rd l0 0) 16) ((Int.tmod (rd l0 0) 16) == 5)) else (if (Int.tmod (rd l0 0) 16) = 6 then (antipoderef29_long.j0 k l0 (Int.tmod (rd l0 0) 16) ((Int.tmod (rd l0 0) 16) == 6)) else (if (Int.tmod (rd l0 0) 16) = 7 then (antipoderef29_long.j0 k l0 (Int.tmod (rd l0 0) 16) ((Int.tmod (rd l0 0) 16) == 7)) else (if (Int.tmod (rd l0 0) 16) = 8 then (antipoderef29_long.j0 k l0 (Int.tmod (rd l0 0) 16) ((Int.tmod (rd l0 0) 16) == 8)) else (antipoderef29_long.j0 k l0 (Int.tmod (rd l0 0) 16) ((Int.tmod (rd l0 0) 16) == 9))))))) else (none)) = some r := h
 clear h
 by_cases c2 : 0 < (l0.length : Int)
 ·rw [if_pos c2] at H
  have c2b0 : decide (0 < (l0.length : Int)) = true := decide_eq_true c2
  have c2b1 : decide (0 < l0.length) = true := decide_eq_true (by omega)
  clear c2
  by_cases c3 : (Int.tmod (rd l0 0) 16) = 4
  ·rw [if_pos c3] at H
   have c3b0 : ((Int.tmod (rd l0 0) 16) == 4) = true := beq_iff_eq.mpr c3
   have c3b1 : ((Int.tmod (rd l0 0) 16) != 4) = false := bne_eq_false_iff_eq.mpr c3
   clear c3
   obtain rfl := Option.some.inj H
   have p189 : 0 ≤ (0 : Int) := (by omega)
   have q189 : 0 < (l0.length : Int) := of_decide_eq_true (by first | (with_reducible assumption) | assumption)
   obtain ⟨ad189, e189, hx189_0⟩ := Kd.at_int HR0.out 0 p189 q189
   cases e189
   have qi189 : (0 < l0.length) = True := eq_true (by omega)
   (try rw [show ((0 : Int)).toNat = 0 from rfl] at hx189_0)
   (try rw [Addr.add_zero'] at hx189_0)
   replace p189 := eq_true p189
   replace q189 := eq_true q189
   go_enter Try.func19, Try.ntmps19
   go_wp2
   go_ret
   exact ⟨by first | rfl | (simp; done) | (simp [*]; done), by repeat (first | exact Drawn0.refl _ | apply Drawn0.step)⟩
  ·rw [if_neg c3] at H
   have c3b0 : ((Int.tmod (rd l0 0) 16) == 4) = false := beq_eq_false_iff_ne.mpr c3
   have c3b1 : ((Int.tmod (rd l0 0) 16) != 4) = true := bne_iff_ne.mpr c3
   have HC4 := Aside0.mk H
   clear H
   have p189 : 0 ≤ (0 : Int) := (by omega)
   have q189 : 0 < (l0.length : Int) := of_decide_eq_true (by first | (with_reducible assumption) | assumption)
   obtain ⟨ad189, e189, hx189_0⟩ := Kd.at_int HR0.out 0 p189 q189
   cases e189
   have qi189 : (0 < l0.length) = True := eq_true (by omega)
   (try rw [show ((0 : Int)).toNat = 0 from rfl] at hx189_0)
   (try rw [Addr.add_zero'] at hx189_0)
   replace p189 := eq_true p189
   replace q189 := eq_true q189
   go_enter Try.func19, Try.ntmps19
   go_upto_if 9 with (fail)
   go_cut [9] (fun v9 wc => ∃ (kq : Nat) (x9_3 : Bool), v9 = .bool x9_3 ∧ Aside0 (antipoderef29_long.j0 kq l0 (Int.tmod (rd l0 0) 16) x9_3 = some r) ∧ Aside0 (kq ≤ k) ∧ Drawn0 w wc)
   case first =>
    have H := HC4.out
    clear HC4
    by_cases c5 : (Int.tmod (rd l0 0) 16) = 5
    ·rw [if_pos c5] at H
     have c5b0 : ((Int.tmod (rd l0 0) 16) == 5) = true := beq_iff_eq.mpr c5
     have c5b1 : ((Int.tmod (rd l0 0) 16) != 5) = false := bne_eq_false_iff_eq.mpr c5
     clear c5
     (first | rw [c5b0] | (simp only [i64_w, i32_w]; rw [c5b0]) | skip)
     have H' := Aside0.mk H
     clear H
     go_wp2
     go_meet
     case rel => exact ⟨_, (((Int.tmod (rd l0 0) 16) == 5)), (by first | rfl | (simp; done) | (simp [*]; done)), H', ⟨by first | omega | exact Nat.le_refl _⟩, by repeat (first | exact Drawn0.refl _ | apply Drawn0.step)⟩
    ·rw [if_neg c5] at H
     have c5b0 : ((Int.tmod (rd l0 0) 16) == 5) = false := beq_eq_false_iff_ne.mpr c5
     have c5b1 : ((Int.tmod (rd l0 0) 16) != 5) = true := bne_iff_ne.mpr c5
     (first | rw [c5b0] | (simp only [i64_w, i32_w]; rw [c5b0]) | skip)
     by_cases c6 : (Int.tmod (rd l0 0) 16) = 6
     ·rw [if_pos c6] at H
      have c6b0 : ((Int.tmod (rd l0 0) 16) == 6) = true := beq_iff_eq.mpr c6
      have c6b1 : ((Int.tmod (rd l0 0) 16) != 6) = false := bne_eq_false_iff_eq.mpr c6
      clear c6
      have H' := Aside0.mk H
      clear H
      go_wp2
      go_meet
      case rel => exact ⟨_, (((Int.tmod (rd l0 0) 16) == 6)), (by first | rfl | (simp; done) | (simp [*]; done)), H', ⟨by first | omega | exact Nat.le_refl _⟩, by repeat (first | exact Drawn0.refl _ | apply Drawn0.step)⟩
     ·rw [if_neg c6] at H
      have c6b0 : ((Int.tmod (rd l0 0) 16) == 6) = false := beq_eq_false_iff_ne.mpr c6
      have c6b1 : ((Int.tmod (rd l0 0) 16) != 6) = true := bne_iff_ne.mpr c6
      by_cases c7 : (Int.tmod (rd l0 0) 16) = 7
      ·rw [if_pos c7] at H
       have c7b0 : ((Int.tmod (rd l0 0) 16) == 7) = true := beq_iff_eq.mpr c7
       have c7b1 : ((Int.tmod (rd l0 0) 16) != 7) = false := bne_eq_false_iff_eq.mpr c7
       clear c7
       have H' := Aside0.mk H
       clear H
       go_wp2
       go_meet
       case rel => exact ⟨_, (((Int.tmod (rd l0 0) 16) == 7)), (by first | rfl | (simp; done) | (simp [*]; done)), H', ⟨by first | omega | exact Nat.le_refl _⟩, by repeat (first | exact Drawn0.refl _ | apply Drawn0.step)⟩
      ·rw [if_neg c7] at H
       have c7b0 : ((Int.tmod (rd l0 0) 16) == 7) = false := beq_eq_false_iff_ne.mpr c7
       have c7b1 : ((Int.tmod (rd l0 0) 16) != 7) = true := bne_iff_ne.mpr c7
       by_cases c8 : (Int.tmod (rd l0 0) 16) = 8
       ·rw [if_pos c8] at H
        have c8b0 : ((Int.tmod (rd l0 0) 16) == 8) = true := beq_iff_eq.mpr c8
        have c8b1 : ((Int.tmod (rd l0 0) 16) != 8) = false := bne_eq_false_iff_eq.mpr c8
        clear c8
        have H' := Aside0.mk H
        clear H
        go_wp2
        go_meet
        case rel => exact ⟨_, (((Int.tmod (rd l0 0) 16) == 8)), (by first | rfl | (simp; done) | (simp [*]; done)), H', ⟨by first | omega | exact Nat.le_refl _⟩, by repeat (first | exact Drawn0.refl _ | apply Drawn0.step)⟩
       ·rw [if_neg c8] at H
        have c8b0 : ((Int.tmod (rd l0 0) 16) == 8) = false := beq_eq_false_iff_ne.mpr c8
        have c8b1 : ((Int.tmod (rd l0 0) 16) != 8) = true := bne_iff_ne.mpr c8
        have H' := Aside0.mk H
        clear H
        go_wp2
        go_meet
        case rel => exact ⟨_, (((Int.tmod (rd l0 0) 16) == 9)), (by first | rfl | (simp; done) | (simp [*]; done)), H', ⟨by first | omega | exact Nat.le_refl _⟩, by repeat (first | exact Drawn0.refl _ | apply Drawn0.step)⟩
   case rest =>
    clear HC4
    try clear c1
    try clear p1
    try clear q1
    try clear hx1
    try clear qi1
    try clear c2
    try clear c2b0
    try clear c2b1
    try clear p2
    try clear c3
    try clear c3b0
    try clear c3b1
    try clear c5
    try clear c5b0
    try clear c5b1
    try clear c6
    try clear c6b0
    try clear c6b1
    try clear c7
    try clear c7b0
    try clear c7b1
    try clear c8
    try clear c8b0
    try clear c8b1
    try clear hx189_0
    try clear p189
    try clear q189
    obtain ⟨kq, x9_3, rfl, HA, HJ3, ⟨mc3, rfl⟩⟩ := hcut
    cases kq with
    | zero => exact absurd HA.out (by simp [antipoderef29_long.j0])
    | succ kj3 =>
     have H := HA.out
     clear HA
     simp only [antipoderef29_long.j0] at H
     by_cases c9 : x9_3 = true
     ·subst c9
      have H1 : (some 2) = some r := by rw [if_pos rfl] at H; exact H
      clear H
      have H := H1
      clear H1
      obtain rfl := Option.some.inj H
      go_wp2
      go_ret
      exact ⟨by first | rfl | (simp; done) | (simp [*]; done), by repeat (first | exact Drawn0.refl _ | apply Drawn0.step)⟩
     ·replace c9 := Bool.eq_false_iff.mpr c9
      subst c9
      have H1 : (if (Int.tmod (rd l0 0) 16) = 10 then (if (l0.length : Int) < 3 then (some 0) else (if 2 < (l0.length : Int) then (some (wrap64 (3 + (wrap64 (rd l0 2))))) else (none))) else (if (Int.tmod (rd l0 0) 16) = 11 then (some 4) else (if (Int.tmod (rd l0 0) 16) = 13 then (some 3) else (if (Int.tmod (rd l0 0) 16) = 14 then (some 5) else (if (Int.tmod (rd l0 0) 16) = 15 then (some 1) else (some 2)))))) = some r := by rw [if_neg (show ¬ (false = true) by decide)] at H; exact H
      clear H
      have H := H1
      clear H1
      by_cases c10 : (Int.tmod (rd l0 0) 16) = 10
      ·rw [if_pos c10] at H
       have c10b0 : ((Int.tmod (rd l0 0) 16) == 10) = true := beq_iff_eq.mpr c10
       have c10b1 : ((Int.tmod (rd l0 0) 16) != 10) = false := bne_eq_false_iff_eq.mpr c10
       clear c10
       by_cases c11 : (l0.length : Int) < 3
       ·rw [if_pos c11] at H
        have c11b0 : decide ((l0.length : Int) < 3) = true := decide_eq_true c11
        have c11b1 : decide (l0.length < 3) = true := decide_eq_true (by omega)
        clear c11
        obtain rfl := Option.some.inj H
        go_wp2
        go_ret
        exact ⟨by first | rfl | (simp; done) | (simp [*]; done), by repeat (first | exact Drawn0.refl _ | apply Drawn0.step)⟩
       ·rw [if_neg c11] at H
        have c11b0 : decide ((l0.length : Int) < 3) = false := decide_eq_false c11
        have c11b1 : decide (l0.length < 3) = false := decide_eq_false (by omega)
        clear c11
        by_cases c12 : 2 < (l0.length : Int)
        ·rw [if_pos c12] at H
         have c12b0 : decide (2 < (l0.length : Int)) = true := decide_eq_true c12
         have c12b1 : decide (2 < l0.length) = true := decide_eq_true (by omega)
         clear c12
         obtain rfl := Option.some.inj H
         have p190 : 0 ≤ (2 : Int) := (by omega)
         have q190 : 2 < (l0.length : Int) := of_decide_eq_true (by first | (with_reducible assumption) | assumption)
         obtain ⟨ad190, e190, hx190_0⟩ := Kd.at_int HR0.out 2 p190 q190
         obtain rfl : ad189 = ad190 := (by injection e190)
         (try simp only [show (2 : Int).toNat = 2 from rfl, Nat.reduceMul, Nat.reduceEqDiff, Go.Addr.add, ↓reduceIte] at hx190_0)
         have qi190 : (2 < l0.length) = True := eq_true (by omega)
         (try rw [show ((2 : Int)).toNat = 2 from rfl] at hx190_0)
         replace p190 := eq_true p190
         replace q190 := eq_true q190
         go_wp2
         go_ret
         exact ⟨by first | rfl | (simp; done) | (simp [*]; done), by repeat (first | exact Drawn0.refl _ | apply Drawn0.step)⟩
        ·rw [if_neg c12] at H
         exact absurd H (by simp)
      ·rw [if_neg c10] at H
       have c10b0 : ((Int.tmod (rd l0 0) 16) == 10) = false := beq_eq_false_iff_ne.mpr c10
       have c10b1 : ((Int.tmod (rd l0 0) 16) != 10) = true := bne_iff_ne.mpr c10
       by_cases c13 : (Int.tmod (rd l0 0) 16) = 11
       ·rw [if_pos c13] at H
        have c13b0 : ((Int.tmod (rd l0 0) 16) == 11) = true := beq_iff_eq.mpr c13
        have c13b1 : ((Int.tmod (rd l0 0) 16) != 11) = false := bne_eq_false_iff_eq.mpr c13
        clear c13
        obtain rfl := Option.some.inj H
        go_wp2
        go_ret
        exact ⟨by first | rfl | (simp; done) | (simp [*]; done), by repeat (first | exact Drawn0.refl _ | apply Drawn0.step)⟩
       ·rw [if_neg c13] at H
        have c13b0 : ((Int.tmod (rd l0 0) 16) == 11) = false := beq_eq_false_iff_ne.mpr c13
        have c13b1 : ((Int.tmod (rd l0 0) 16) != 11) = true := bne_iff_ne.mpr c13
        by_cases c14 : (Int.tmod (rd l0 0) 16) = 13
        ·rw [if_pos c14] at H
         have c14b0 : ((Int.tmod (rd l0 0) 16) == 13) = true := beq_iff_eq.mpr c14
         have c14b1 : ((Int.tmod (rd l0 0) 16) != 13) = false := bne_eq_false_iff_eq.mpr c14
         clear c14
         obtain rfl := Option.some.inj H
         go_wp2
         go_ret
         exact ⟨by first | rfl | (simp; done) | (simp [*]; done), by repeat (first | exact Drawn0.refl _ | apply Drawn0.step)⟩
        ·rw [if_neg c14] at H
         have c14b0 : ((Int.tmod (rd l0 0) 16) == 13) = false := beq_eq_false_iff_ne.mpr c14
         have c14b1 : ((Int.tmod (rd l0 0) 16) != 13) = true := bne_iff_ne.mpr c14
         by_cases c15 : (Int.tmod (rd l0 0) 16) = 14
         ·rw [if_pos c15] at H
          have c15b0 : ((Int.tmod (rd l0 0) 16) == 14) = true := beq_iff_eq.mpr c15
          have c15b1 : ((Int.tmod (rd l0 0) 16) != 14) = false := bne_eq_false_iff_eq.mpr c15
          clear c15
          obtain rfl := Option.some.inj H
          go_wp2
          go_ret
          exact ⟨by first | rfl | (simp; done) | (simp [*]; done), by repeat (first | exact Drawn0.refl _ | apply Drawn0.step)⟩
         ·rw [if_neg c15] at H
          have c15b0 : ((Int.tmod (rd l0 0) 16) == 14) = false := beq_eq_false_iff_ne.mpr c15
          have c15b1 : ((Int.tmod (rd l0 0) 16) != 14) = true := bne_iff_ne.mpr c15
          by_cases c16 : (Int.tmod (rd l0 0) 16) = 15
          ·rw [if_pos c16] at H
           have c16b0 : ((Int.tmod (rd l0 0) 16) == 15) = true := beq_iff_eq.mpr c16
           have c16b1 : ((Int.tmod (rd l0 0) 16) != 15) = false := bne_eq_false_iff_eq.mpr c16
           clear c16
           obtain rfl := Option.some.inj H
           go_wp2
           go_ret
           exact ⟨by first | rfl | (simp; done) | (simp [*]; done), by repeat (first | exact Drawn0.refl _ | apply Drawn0.step)⟩
          ·rw [if_neg c16] at H
           have c16b0 : ((Int.tmod (rd l0 0) 16) == 15) = false := beq_eq_false_iff_ne.mpr c16
           have c16b1 : ((Int.tmod (rd l0 0) 16) != 15) = true := bne_iff_ne.mpr c16
           obtain rfl := Option.some.inj H
           go_wp2
           go_ret
           exact ⟨by first | rfl | (simp; done) | (simp [*]; done), by repeat (first | exact Drawn0.refl _ | apply Drawn0.step)⟩
 ·rw [if_neg c2] at H
  exact absurd H (by simp)
end Go.Proofs.Ytpoejopnjkcdpaa.QA


/- Written by a program of this session (wip/myprint.sh): contracts of Go functions of the translation: each call comes to what the Lean function of its name says. -/
import Derived.Test.YtjfgapaohldbkaaZQAll
namespace Go.Proofs.Ytjfgapaohldbkaa.QA
open Go.RowKit Go.Proofs.YtjfgapaohldbkaaW.PrintWords Go.Proofs.YtjfgapaohldbkaaW.PrintLast Go.Proofs.YtjfgapaohldbkaaW.PrintMore
attribute [local go_sem] max2_int min2_int max_two min_two max_three min_three max_four min_four   -- for this text's walks alone
set_option linter.unusedVariables false
set_option linter.unusedSimpArgs false
mutual
def antipodelaw8_Light.l0 : Nat → List (S75) → Int → Option (Bool)
 | 0, _, _ => none
 | k + 1, x0, x3 => if x3 < (x0.length : Int) then (if 0 ≤ x3 then (if (((rd_T75 x0 x3).f1).length : Int) > 30 then (antipodelaw8_Light.j1 k x0 x3 true) else (if (((rd_T75 x0 x3).f0).size : Int) > 100 then (antipodelaw8_Light.j1 k x0 x3 true) else (antipodelaw8_Light.j1 k x0 x3 (decide ((((rd_T75 x0 x3).f3.f4).size : Int) > 300))))) else (none)) else (some true)
def antipodelaw8_Light.j1 : Nat → List (S75) → Int → Bool → Option (Bool)
 | 0, _, _, _ => none
 | k + 1, x0, x3, x39 => if x39 = true then (some false) else (antipodelaw8_Light.l1 k x0 x3 0)
def antipodelaw8_Light.l1 : Nat → List (S75) → Int → Int → Option (Bool)
 | 0, _, _, _ => none
 | k + 1, x0, x3, x4 => if 0 ≤ x3 then (if x3 < (x0.length : Int) then (if x4 < (((rd_T75 x0 x3).f1).length : Int) then (if 0 ≤ x4 then (if (((rd_T78 ((rd_T75 x0 x3).f1) x4).f2).size : Int) > 300 then (some false) else (antipodelaw8_Light.l1 k x0 x3 (wrap64 (x4 + 1)))) else (none)) else (antipodelaw8_Light.l0 k x0 (wrap64 (x3 + 1)))) else (none)) else (none)
end
def antipodelaw8_Light.f (k : Nat) (l0 : List (S75)) : Option (Bool) := if (l0.length : Int) > 60 then (some false) else (antipodelaw8_Light.l0 k l0 0)
set_option maxHeartbeats 8000000 in
set_option maxRecDepth 100000 in
theorem antipodelaw8_Light.calls (k : Nat) (A0 : Option Addr) (c0 : Nat) (l0 : List (S75)) (r : Bool) (w : World) (hr0 : Kd.C k75 w A0 l0.length l0) (hc0 : l0.length ≤ c0) (h : antipodelaw8_Light.f k l0 = some r) :
  Calls Try.prog 31 #[.slice A0 l0.length c0] w fun e w' => e = .returned (.bool r) ∧ Drawn0 w w' := by
 have HR0 := Aside0.mk hr0
 have HC0 := Aside0.mk hc0
 clear hr0 hc0
 have H : (if (l0.length : Int) > 60 then (some false) else (antipodelaw8_Light.l0 k l0 0)) = some r := h
 clear h
 by_cases c2 : (l0.length : Int) > 60
 ·rw [if_pos c2] at H
  have c2b0 : decide (60 < (l0.length : Int)) = true := decide_eq_true c2
  have c2b1 : decide (60 < l0.length) = true := decide_eq_true (by omega)
  clear c2
  obtain rfl := Option.some.inj H
  go_enter Try.func31, Try.ntmps31
  go_wp2
  go_ret
  exact ⟨by first | rfl | (simp; done) | (simp [*]; done), by repeat (first | exact Drawn0.refl _ | apply Drawn0.step)⟩
 ·rw [if_neg c2] at H
  have c2b0 : decide (60 < (l0.length : Int)) = false := decide_eq_false c2
  have c2b1 : decide (60 < l0.length) = false := decide_eq_false (by omega)
  clear c2
  have H' := Aside0.mk H
  clear H
  go_enter Try.func31, Try.ntmps31
  go_wp2
  go_loopg [3] k (fun kq v3 w' => ∃ (x3_1 : Int), v3 = .int .i64 x3_1 ∧ Aside0 (antipodelaw8_Light.l0 kq l0 x3_1 = some r) ∧ Aside0 (kq ≤ k) ∧ Drawn0 w w')
  case atStart => exact ⟨(0), (by first | rfl | (simp; done) | (simp [*]; done)), H', ⟨Nat.le_refl _⟩, by repeat (first | exact Drawn0.refl _ | apply Drawn0.step)⟩
  case round =>
   clear H'
   try clear c2
   try clear c2b0
   try clear c2b1
   try clear p2
   obtain ⟨x3_1, rfl, HA, HK1, ⟨m1, rfl⟩⟩ := hrel
   cases gk with
   | zero => exact absurd HA.out (by simp [antipodelaw8_Light.l0])
   | succ k1 =>
    have H := HA.out
    clear HA
    simp only [antipodelaw8_Light.l0] at H
    by_cases c3 : x3_1 < (l0.length : Int)
    ·rw [if_pos c3] at H
     have c3b0 : decide (x3_1 < (l0.length : Int)) = true := decide_eq_true c3
     clear c3
     have HC4 := Aside0.mk H
     clear H
     go_upto_region 6 with (fail)
     go_cut [39] (fun v39 wc => ∃ (kq : Nat) (x39_3 : Bool), v39 = .bool x39_3 ∧ Aside0 (antipodelaw8_Light.j1 kq l0 x3_1 x39_3 = some r) ∧ Aside0 (kq ≤ k1) ∧ Drawn0 w wc)
     case first =>
      have H := HC4.out
      clear HC4
      by_cases c5 : 0 ≤ x3_1
      ·rw [if_pos c5] at H
       have c5b0 : decide (0 ≤ x3_1) = true := decide_eq_true c5
       clear c5
       (first | rw [c5b0] | (simp only [i64_w, i32_w]; rw [c5b0]) | skip)
       by_cases c6 : (((rd_T75 l0 x3_1).f1).length : Int) > 30
       ·rw [if_pos c6] at H
        have c6b0 : decide (30 < (((rd_T75 l0 x3_1).f1).length : Int)) = true := decide_eq_true c6
        have c6b1 : decide (30 < ((rd_T75 l0 x3_1).f1).length) = true := decide_eq_true (by omega)
        clear c6
        have H' := Aside0.mk H
        clear H
        have p288 : 0 ≤ (x3_1 : Int) := of_decide_eq_true (by first | (with_reducible assumption) | assumption)
        have q288 : x3_1 < (l0.length : Int) := of_decide_eq_true (by first | (with_reducible assumption) | assumption)
        obtain ⟨ad288, A288_1, c288_1, e288, hx288_0, hx288_1, hx288_2, hx288_3, hx288_4, hx288_5, hx288_6, hx288_7, hx288_8, hx288_9, hx288_10, hx288_11, hl288_1, hi288_1⟩ := at_T75 HR0.out x3_1 p288 q288
        cases e288
        have HR288_1 := Aside0.mk hi288_1
        have HC288_1 := Aside0.mk hl288_1
        clear hi288_1 hl288_1
        replace p288 := eq_true p288
        replace q288 := eq_true q288
        go_wp2
        go_meet
        case rel => exact ⟨_, (true), (by first | rfl | (simp; done) | (simp [*]; done)), H', ⟨by have := HK1.out; first | omega | exact Nat.le_refl _⟩, by repeat (first | exact Drawn0.refl _ | apply Drawn0.step)⟩
       ·rw [if_neg c6] at H
        have c6b0 : decide (30 < (((rd_T75 l0 x3_1).f1).length : Int)) = false := decide_eq_false c6
        have c6b1 : decide (30 < ((rd_T75 l0 x3_1).f1).length) = false := decide_eq_false (by omega)
        clear c6
        by_cases c7 : (((rd_T75 l0 x3_1).f0).size : Int) > 100
        ·rw [if_pos c7] at H
         have c7b0 : decide (100 < (((rd_T75 l0 x3_1).f0).size : Int)) = true := decide_eq_true c7
         have c7b1 : decide (100 < ((rd_T75 l0 x3_1).f0).size) = true := decide_eq_true (by omega)
         clear c7
         have H' := Aside0.mk H
         clear H
         have p288 : 0 ≤ (x3_1 : Int) := of_decide_eq_true (by first | (with_reducible assumption) | assumption)
         have q288 : x3_1 < (l0.length : Int) := of_decide_eq_true (by first | (with_reducible assumption) | assumption)
         obtain ⟨ad288, A288_1, c288_1, e288, hx288_0, hx288_1, hx288_2, hx288_3, hx288_4, hx288_5, hx288_6, hx288_7, hx288_8, hx288_9, hx288_10, hx288_11, hl288_1, hi288_1⟩ := at_T75 HR0.out x3_1 p288 q288
         cases e288
         have HR288_1 := Aside0.mk hi288_1
         have HC288_1 := Aside0.mk hl288_1
         clear hi288_1 hl288_1
         replace p288 := eq_true p288
         replace q288 := eq_true q288
         have p289 : 0 ≤ (x3_1 : Int) := of_decide_eq_true (by first | (with_reducible assumption) | assumption)
         have q289 : x3_1 < (l0.length : Int) := of_decide_eq_true (by first | (with_reducible assumption) | assumption)
         obtain ⟨ad289, A289_1, c289_1, e289, hx289_0, hx289_1, hx289_2, hx289_3, hx289_4, hx289_5, hx289_6, hx289_7, hx289_8, hx289_9, hx289_10, hx289_11, hl289_1, hi289_1⟩ := at_T75 HR0.out x3_1 p289 q289
         obtain rfl : ad288 = ad289 := (by injection e289)
         have HR289_1 := Aside0.mk hi289_1
         have HC289_1 := Aside0.mk hl289_1
         clear hi289_1 hl289_1
         replace p289 := eq_true p289
         replace q289 := eq_true q289
         have ea_ := Option.some.inj (hx288_1.symm.trans hx289_1)
         injection ea_ with ea_ en_ ec_
         subst ea_
         subst ec_
         clear en_
         go_wp2
         go_meet
         case rel => exact ⟨_, (true), (by first | rfl | (simp; done) | (simp [*]; done)), H', ⟨by have := HK1.out; first | omega | exact Nat.le_refl _⟩, by repeat (first | exact Drawn0.refl _ | apply Drawn0.step)⟩
        ·rw [if_neg c7] at H
         have c7b0 : decide (100 < (((rd_T75 l0 x3_1).f0).size : Int)) = false := decide_eq_false c7
         have c7b1 : decide (100 < ((rd_T75 l0 x3_1).f0).size) = false := decide_eq_false (by omega)
         clear c7
         have H' := Aside0.mk H
         clear H
         have p288 : 0 ≤ (x3_1 : Int) := of_decide_eq_true (by first | (with_reducible assumption) | assumption)
         have q288 : x3_1 < (l0.length : Int) := of_decide_eq_true (by first | (with_reducible assumption) | assumption)
         obtain ⟨ad288, A288_1, c288_1, e288, hx288_0, hx288_1, hx288_2, hx288_3, hx288_4, hx288_5, hx288_6, hx288_7, hx288_8, hx288_9, hx288_10, hx288_11, hl288_1, hi288_1⟩ := at_T75 HR0.out x3_1 p288 q288
         cases e288
         have HR288_1 := Aside0.mk hi288_1
         have HC288_1 := Aside0.mk hl288_1
         clear hi288_1 hl288_1
         replace p288 := eq_true p288
         replace q288 := eq_true q288
         have p289 : 0 ≤ (x3_1 : Int) := of_decide_eq_true (by first | (with_reducible assumption) | assumption)
         have q289 : x3_1 < (l0.length : Int) := of_decide_eq_true (by first | (with_reducible assumption) | assumption)
         obtain ⟨ad289, A289_1, c289_1, e289, hx289_0, hx289_1, hx289_2, hx289_3, hx289_4, hx289_5, hx289_6, hx289_7, hx289_8, hx289_9, hx289_10, hx289_11, hl289_1, hi289_1⟩ := at_T75 HR0.out x3_1 p289 q289
         obtain rfl : ad288 = ad289 := (by injection e289)
         have HR289_1 := Aside0.mk hi289_1
         have HC289_1 := Aside0.mk hl289_1
         clear hi289_1 hl289_1
         replace p289 := eq_true p289
         replace q289 := eq_true q289
         have ea_ := Option.some.inj (hx288_1.symm.trans hx289_1)
         injection ea_ with ea_ en_ ec_
         subst ea_
         subst ec_
         clear en_
         have p290 : 0 ≤ (x3_1 : Int) := of_decide_eq_true (by first | (with_reducible assumption) | assumption)
         have q290 : x3_1 < (l0.length : Int) := of_decide_eq_true (by first | (with_reducible assumption) | assumption)
         obtain ⟨ad290, A290_1, c290_1, e290, hx290_0, hx290_1, hx290_2, hx290_3, hx290_4, hx290_5, hx290_6, hx290_7, hx290_8, hx290_9, hx290_10, hx290_11, hl290_1, hi290_1⟩ := at_T75 HR0.out x3_1 p290 q290
         obtain rfl : ad288 = ad290 := (by injection e290)
         have HR290_1 := Aside0.mk hi290_1
         have HC290_1 := Aside0.mk hl290_1
         clear hi290_1 hl290_1
         replace p290 := eq_true p290
         replace q290 := eq_true q290
         have ea_ := Option.some.inj (hx288_1.symm.trans hx290_1)
         injection ea_ with ea_ en_ ec_
         subst ea_
         subst ec_
         clear en_
         go_wp2
         go_meet
         case rel => exact ⟨_, (decide ((((rd_T75 l0 x3_1).f3.f4).size : Int) > 300)), (by first | rfl | (simp; done) | (simp [*]; done)), H', ⟨by have := HK1.out; first | omega | exact Nat.le_refl _⟩, by repeat (first | exact Drawn0.refl _ | apply Drawn0.step)⟩
      ·rw [if_neg c5] at H
       exact absurd H (by simp)
     case rest =>
      clear HC4
      try clear c2
      try clear c2b0
      try clear c2b1
      try clear p2
      try clear q2
      try clear hx2
      try clear c3
      try clear c3b0
      try clear c5
      try clear c5b0
      try clear c6
      try clear c6b0
      try clear c6b1
      try clear c7
      try clear c7b0
      try clear c7b1
      try clear hx288_0
      try clear hx288_1
      try clear hx288_10
      try clear hx288_11
      try clear hx288_2
      try clear hx288_3
      try clear hx288_4
      try clear hx288_5
      try clear hx288_6
      try clear hx288_7
      try clear hx288_8
      try clear hx288_9
      try clear hx289_0
      try clear hx289_1
      try clear hx289_10
      try clear hx289_11
      try clear hx289_2
      try clear hx289_3
      try clear hx289_4
      try clear hx289_5
      try clear hx289_6
      try clear hx289_7
      try clear hx289_8
      try clear hx289_9
      try clear hx290_0
      try clear hx290_1
      try clear hx290_10
      try clear hx290_11
      try clear hx290_2
      try clear hx290_3
      try clear hx290_4
      try clear hx290_5
      try clear hx290_6
      try clear hx290_7
      try clear hx290_8
      try clear hx290_9
      try clear p2
      try clear p288
      try clear p289
      try clear p290
      try clear q288
      try clear q289
      try clear q290
      obtain ⟨kq, x39_3, rfl, HA, HJ3, ⟨mc3, rfl⟩⟩ := hcut
      cases kq with
      | zero => exact absurd HA.out (by simp [antipodelaw8_Light.j1])
      | succ kj3 =>
       have H := HA.out
       clear HA
       simp only [antipodelaw8_Light.j1] at H
       by_cases c8 : x39_3 = true
       ·subst c8
        have H1 : (some false) = some r := by rw [if_pos rfl] at H; exact H
        clear H
        have H := H1
        clear H1
        obtain rfl := Option.some.inj H
        go_wp2
        go_ret
        exact ⟨by first | rfl | (simp; done) | (simp [*]; done), by repeat (first | exact Drawn0.refl _ | apply Drawn0.step)⟩
       ·replace c8 := Bool.eq_false_iff.mpr c8
        subst c8
        have H1 : (antipodelaw8_Light.l1 kj3 l0 x3_1 0) = some r := by rw [if_neg (show ¬ (false = true) by decide)] at H; exact H
        clear H
        have H := H1
        clear H1
        have H' := Aside0.mk H
        clear H
        go_wp2
        go_loopg [4] kj3 (fun kq v4 w' => ∃ (x4_3 : Int), v4 = .int .i64 x4_3 ∧ Aside0 (antipodelaw8_Light.l1 kq l0 x3_1 x4_3 = some r) ∧ Aside0 (kq ≤ kj3) ∧ Drawn0 w w')
        case atStart => exact ⟨(0), (by first | rfl | (simp; done) | (simp [*]; done)), H', ⟨Nat.le_refl _⟩, by repeat (first | exact Drawn0.refl _ | apply Drawn0.step)⟩
        case round =>
         clear H'
         try clear c2
         try clear c2b0
         try clear c2b1
         try clear p2
         try clear q2
         try clear hx2
         try clear c3
         try clear c3b0
         try clear c5
         try clear c5b0
         try clear c6
         try clear c6b0
         try clear c6b1
         try clear c7
         try clear c7b0
         try clear c7b1
         try clear c8
         try clear hx288_0
         try clear hx288_1
         try clear hx288_10
         try clear hx288_11
         try clear hx288_2
         try clear hx288_3
         try clear hx288_4
         try clear hx288_5
         try clear hx288_6
         try clear hx288_7
         try clear hx288_8
         try clear hx288_9
         try clear hx289_0
         try clear hx289_1
         try clear hx289_10
         try clear hx289_11
         try clear hx289_2
         try clear hx289_3
         try clear hx289_4
         try clear hx289_5
         try clear hx289_6
         try clear hx289_7
         try clear hx289_8
         try clear hx289_9
         try clear hx290_0
         try clear hx290_1
         try clear hx290_10
         try clear hx290_11
         try clear hx290_2
         try clear hx290_3
         try clear hx290_4
         try clear hx290_5
         try clear hx290_6
         try clear hx290_7
         try clear hx290_8
         try clear hx290_9
         try clear p2
         try clear p288
         try clear p289
         try clear p290
         try clear q2
         try clear q288
         try clear q289
         try clear q290
         obtain ⟨x4_3, rfl, HA, HK3, ⟨m3, rfl⟩⟩ := hrel
         cases gk with
         | zero => exact absurd HA.out (by simp [antipodelaw8_Light.l1])
         | succ k3 =>
          have H := HA.out
          clear HA
          simp only [antipodelaw8_Light.l1] at H
          by_cases c9 : 0 ≤ x3_1
          ·rw [if_pos c9] at H
           have c9b0 : decide (0 ≤ x3_1) = true := decide_eq_true c9
           clear c9
           by_cases c10 : x3_1 < (l0.length : Int)
           ·rw [if_pos c10] at H
            have c10b0 : decide (x3_1 < (l0.length : Int)) = true := decide_eq_true c10
            clear c10
            by_cases c11 : x4_3 < (((rd_T75 l0 x3_1).f1).length : Int)
            ·rw [if_pos c11] at H
             have c11b0 : decide (x4_3 < (((rd_T75 l0 x3_1).f1).length : Int)) = true := decide_eq_true c11
             clear c11
             by_cases c12 : 0 ≤ x4_3
             ·rw [if_pos c12] at H
              have c12b0 : decide (0 ≤ x4_3) = true := decide_eq_true c12
              clear c12
              by_cases c13 : (((rd_T78 ((rd_T75 l0 x3_1).f1) x4_3).f2).size : Int) > 300
              ·rw [if_pos c13] at H
               have c13b0 : decide (300 < (((rd_T78 ((rd_T75 l0 x3_1).f1) x4_3).f2).size : Int)) = true := decide_eq_true c13
               have c13b1 : decide (300 < ((rd_T78 ((rd_T75 l0 x3_1).f1) x4_3).f2).size) = true := decide_eq_true (by omega)
               clear c13
               obtain rfl := Option.some.inj H
               have p291 : 0 ≤ (x3_1 : Int) := of_decide_eq_true (by first | (with_reducible assumption) | assumption)
               have q291 : x3_1 < (l0.length : Int) := of_decide_eq_true (by first | (with_reducible assumption) | assumption)
               obtain ⟨ad291, A291_1, c291_1, e291, hx291_0, hx291_1, hx291_2, hx291_3, hx291_4, hx291_5, hx291_6, hx291_7, hx291_8, hx291_9, hx291_10, hx291_11, hl291_1, hi291_1⟩ := at_T75 HR0.out x3_1 p291 q291
               cases e291
               have HR291_1 := Aside0.mk hi291_1
               have HC291_1 := Aside0.mk hl291_1
               clear hi291_1 hl291_1
               replace p291 := eq_true p291
               replace q291 := eq_true q291
               have p292 : 0 ≤ (x3_1 : Int) := of_decide_eq_true (by first | (with_reducible assumption) | assumption)
               have q292 : x3_1 < (l0.length : Int) := of_decide_eq_true (by first | (with_reducible assumption) | assumption)
               obtain ⟨ad292, A292_1, c292_1, e292, hx292_0, hx292_1, hx292_2, hx292_3, hx292_4, hx292_5, hx292_6, hx292_7, hx292_8, hx292_9, hx292_10, hx292_11, hl292_1, hi292_1⟩ := at_T75 HR0.out x3_1 p292 q292
               obtain rfl : ad291 = ad292 := (by injection e292)
               have HR292_1 := Aside0.mk hi292_1
               have HC292_1 := Aside0.mk hl292_1
               clear hi292_1 hl292_1
               replace p292 := eq_true p292
               replace q292 := eq_true q292
               have ea_ := Option.some.inj (hx291_1.symm.trans hx292_1)
               injection ea_ with ea_ en_ ec_
               subst ea_
               subst ec_
               clear en_
               have p293 : 0 ≤ (x4_3 : Int) := of_decide_eq_true (by first | (with_reducible assumption) | assumption)
               have q293 : x4_3 < (((rd_T75 l0 x3_1).f1).length : Int) := of_decide_eq_true (by first | (with_reducible assumption) | assumption)
               obtain ⟨ad293, e293, hx293_0, hx293_1, hx293_2, hx293_3⟩ := at_T78 HR292_1.out x4_3 p293 q293
               cases e293
               replace p293 := eq_true p293
               replace q293 := eq_true q293
               go_wp2
               go_ret
               exact ⟨by first | rfl | (simp; done) | (simp [*]; done), by repeat (first | exact Drawn0.refl _ | apply Drawn0.step)⟩
              ·rw [if_neg c13] at H
               have c13b0 : decide (300 < (((rd_T78 ((rd_T75 l0 x3_1).f1) x4_3).f2).size : Int)) = false := decide_eq_false c13
               have c13b1 : decide (300 < ((rd_T78 ((rd_T75 l0 x3_1).f1) x4_3).f2).size) = false := decide_eq_false (by omega)
               clear c13
               have H' := Aside0.mk H
               clear H
               have p291 : 0 ≤ (x3_1 : Int) := of_decide_eq_true (by first | (with_reducible assumption) | assumption)
               have q291 : x3_1 < (l0.length : Int) := of_decide_eq_true (by first | (with_reducible assumption) | assumption)
               obtain ⟨ad291, A291_1, c291_1, e291, hx291_0, hx291_1, hx291_2, hx291_3, hx291_4, hx291_5, hx291_6, hx291_7, hx291_8, hx291_9, hx291_10, hx291_11, hl291_1, hi291_1⟩ := at_T75 HR0.out x3_1 p291 q291
               cases e291
               have HR291_1 := Aside0.mk hi291_1
               have HC291_1 := Aside0.mk hl291_1
               clear hi291_1 hl291_1
               replace p291 := eq_true p291
               replace q291 := eq_true q291
               have p292 : 0 ≤ (x3_1 : Int) := of_decide_eq_true (by first | (with_reducible assumption) | assumption)
               have q292 : x3_1 < (l0.length : Int) := of_decide_eq_true (by first | (with_reducible assumption) | assumption)
               obtain ⟨ad292, A292_1, c292_1, e292, hx292_0, hx292_1, hx292_2, hx292_3, hx292_4, hx292_5, hx292_6, hx292_7, hx292_8, hx292_9, hx292_10, hx292_11, hl292_1, hi292_1⟩ := at_T75 HR0.out x3_1 p292 q292
               obtain rfl : ad291 = ad292 := (by injection e292)
               have HR292_1 := Aside0.mk hi292_1
               have HC292_1 := Aside0.mk hl292_1
               clear hi292_1 hl292_1
               replace p292 := eq_true p292
               replace q292 := eq_true q292
               have ea_ := Option.some.inj (hx291_1.symm.trans hx292_1)
               injection ea_ with ea_ en_ ec_
               subst ea_
               subst ec_
               clear en_
               have p293 : 0 ≤ (x4_3 : Int) := of_decide_eq_true (by first | (with_reducible assumption) | assumption)
               have q293 : x4_3 < (((rd_T75 l0 x3_1).f1).length : Int) := of_decide_eq_true (by first | (with_reducible assumption) | assumption)
               obtain ⟨ad293, e293, hx293_0, hx293_1, hx293_2, hx293_3⟩ := at_T78 HR292_1.out x4_3 p293 q293
               cases e293
               replace p293 := eq_true p293
               replace q293 := eq_true q293
               go_wp2
               go_roundg k3
               case measure => have := HK1.out; have := HJ3.out; have := HK3.out; omega
               case rel => exact ⟨(wrap64 (x4_3 + 1)), (by first | rfl | (simp; done) | (simp [*]; done)), H', ⟨by have := HK1.out; have := HJ3.out; have := HK3.out; omega⟩, by repeat (first | exact Drawn0.refl _ | apply Drawn0.step)⟩
             ·rw [if_neg c12] at H
              exact absurd H (by simp)
            ·rw [if_neg c11] at H
             have c11b0 : decide (x4_3 < (((rd_T75 l0 x3_1).f1).length : Int)) = false := decide_eq_false c11
             clear c11
             have H' := Aside0.mk H
             clear H
             have p291 : 0 ≤ (x3_1 : Int) := of_decide_eq_true (by first | (with_reducible assumption) | assumption)
             have q291 : x3_1 < (l0.length : Int) := of_decide_eq_true (by first | (with_reducible assumption) | assumption)
             obtain ⟨ad291, A291_1, c291_1, e291, hx291_0, hx291_1, hx291_2, hx291_3, hx291_4, hx291_5, hx291_6, hx291_7, hx291_8, hx291_9, hx291_10, hx291_11, hl291_1, hi291_1⟩ := at_T75 HR0.out x3_1 p291 q291
             cases e291
             have HR291_1 := Aside0.mk hi291_1
             have HC291_1 := Aside0.mk hl291_1
             clear hi291_1 hl291_1
             replace p291 := eq_true p291
             replace q291 := eq_true q291
             go_wp2
             go_roundg k3
             case measure => have := HK1.out; have := HJ3.out; have := HK3.out; omega
             case rel => exact ⟨(wrap64 (x3_1 + 1)), (by first | rfl | (simp; done) | (simp [*]; done)), H', ⟨by have := HK1.out; have := HJ3.out; have := HK3.out; omega⟩, by repeat (first | exact Drawn0.refl _ | apply Drawn0.step)⟩
           ·rw [if_neg c10] at H
            exact absurd H (by simp)
          ·rw [if_neg c9] at H
           exact absurd H (by simp)
    ·rw [if_neg c3] at H
     have c3b0 : decide (x3_1 < (l0.length : Int)) = false := decide_eq_false c3
     clear c3
     obtain rfl := Option.some.inj H
     go_wp2
     go_ret
     exact ⟨by first | rfl | (simp; done) | (simp [*]; done), by repeat (first | exact Drawn0.refl _ | apply Drawn0.step)⟩
def antipodelaw14_LightPart.f (k : Nat) (a0_0 : Int) (a0_1 : Int) (a0_2 : Int) (a0_3 : Int) (a0_4 : Int) (a0_5 : Int) (l0_6 : List (S75)) (l0_7 : List (S83)) (l0_8 : List (S83)) : Option (Bool) := (antipodelaw8_Light.f k l0_6).bind fun t295 => (if t295 = true then (if (l0_7.length : Int) < 100 then (some (decide ((l0_8.length : Int) < 100))) else (some false)) else (some false))
set_option maxHeartbeats 8000000 in
set_option maxRecDepth 100000 in
theorem antipodelaw14_LightPart.calls (k : Nat) (a0_0 : Int) (a0_1 : Int) (a0_2 : Int) (a0_3 : Int) (a0_4 : Int) (a0_5 : Int) (A0_6 : Option Addr) (c0_6 : Nat) (l0_6 : List (S75)) (A0_7 : Option Addr) (c0_7 : Nat) (l0_7 : List (S83)) (A0_8 : Option Addr) (c0_8 : Nat) (l0_8 : List (S83)) (r : Bool) (w : World) (hr0_6 : Kd.C k75 w A0_6 l0_6.length l0_6) (hc0_6 : l0_6.length ≤ c0_6) (hr0_7 : Kd.C k83 w A0_7 l0_7.length l0_7) (hc0_7 : l0_7.length ≤ c0_7) (hr0_8 : Kd.C k83 w A0_8 l0_8.length l0_8) (hc0_8 : l0_8.length ≤ c0_8) (h : antipodelaw14_LightPart.f k a0_0 a0_1 a0_2 a0_3 a0_4 a0_5 l0_6 l0_7 l0_8 = some r) :
  Calls Try.prog 9 #[.agg #[.int .i64 a0_0, .int .i64 a0_1, .int .i64 a0_2, .int .i64 a0_3, .int .i64 a0_4, .int .i64 a0_5, .slice A0_6 l0_6.length c0_6, .slice A0_7 l0_7.length c0_7, .slice A0_8 l0_8.length c0_8]] w fun e w' => e = .returned (.bool r) ∧ Below w.heap.size w w' := by
 have hu33 := Try.underlying33
 have HR0_6 := Aside0.mk hr0_6
 have HC0_6 := Aside0.mk hc0_6
 clear hr0_6 hc0_6
 have HR0_7 := Aside0.mk hr0_7
 have HC0_7 := Aside0.mk hc0_7
 clear hr0_7 hc0_7
 have HR0_8 := Aside0.mk hr0_8
 have HC0_8 := Aside0.mk hc0_8
 clear hr0_8 hc0_8
 have HB := Aside0.mk (Below.refl w.heap.size w)
 have H : ((antipodelaw8_Light.f k l0_6).bind fun t295 => (if t295 = true then (if (l0_7.length : Int) < 100 then (some (decide ((l0_8.length : Int) < 100))) else (some false)) else (some false))) = some r := h
 clear h
 replace H := Option.bind_eq_some_iff.mp H
 obtain ⟨t295, A20, H⟩ := H
 replace H : (if t295 = true then (if (l0_7.length : Int) < 100 then (some (decide ((l0_8.length : Int) < 100))) else (some false)) else (some false)) = some r := H
 have A2 := Aside0.mk A20
 clear A20
 by_cases c3 : t295 = true
 ·subst c3
  have H1 : (if (l0_7.length : Int) < 100 then (some (decide ((l0_8.length : Int) < 100))) else (some false)) = some r := by rw [if_pos rfl] at H; exact H
  clear H
  have H := H1
  clear H1
  by_cases c4 : (l0_7.length : Int) < 100
  ·rw [if_pos c4] at H
   have c4b0 : decide ((l0_7.length : Int) < 100) = true := decide_eq_true c4
   have c4b1 : decide (l0_7.length < 100) = true := decide_eq_true (by omega)
   clear c4
   obtain rfl := Option.some.inj H
   go_enter Try.func9, Try.ntmps9
   go_wp2_with (first | ((with_reducible refine gate_dst (N := 1) rfl ?_); (try (refine gate_guard (by rfl) ?_; dsimp only)); refine qX 1 #[.int .i64 a0_0, .int .i64 a0_1, .int .i64 a0_2, .int .i64 a0_3, .int .i64 a0_4, .int .i64 a0_5, .slice A0_6 l0_6.length c0_6, .slice A0_7 l0_7.length c0_7, .slice A0_8 l0_8.length c0_8] 33 ?_; intro gb294 hg w5 hbox hb; have BK294 := Aside0.mk (hbox); have GW294 := Aside0.mk ((qZ HB.out hg)); have GE294 := Aside0.mk ((qZ HB.out hg)); replace HB := Aside0.mk (below_step (qB HB.out) hb); clear hb hbox hg; have hcz6_0 : w5.cell? ⟨gb294, 0, none⟩ = some (.int .i64 a0_0) := (blk_cell BK294.out 0).trans rfl; have hcz6_1 : w5.cell? ⟨gb294, 1, none⟩ = some (.int .i64 a0_1) := (blk_cell BK294.out 1).trans rfl; have hcz6_2 : w5.cell? ⟨gb294, 2, none⟩ = some (.int .i64 a0_2) := (blk_cell BK294.out 2).trans rfl; have hcz6_3 : w5.cell? ⟨gb294, 3, none⟩ = some (.int .i64 a0_3) := (blk_cell BK294.out 3).trans rfl; have hcz6_4 : w5.cell? ⟨gb294, 4, none⟩ = some (.int .i64 a0_4) := (blk_cell BK294.out 4).trans rfl; have hcz6_5 : w5.cell? ⟨gb294, 5, none⟩ = some (.int .i64 a0_5) := (blk_cell BK294.out 5).trans rfl; have hcz6_6 : w5.cell? ⟨gb294, 6, none⟩ = some (.slice A0_6 l0_6.length c0_6) := (blk_cell BK294.out 6).trans rfl; have hcz6_7 : w5.cell? ⟨gb294, 7, none⟩ = some (.slice A0_7 l0_7.length c0_7) := (blk_cell BK294.out 7).trans rfl; have hcz6_8 : w5.cell? ⟨gb294, 8, none⟩ = some (.slice A0_8 l0_8.length c0_8) := (blk_cell BK294.out 8).trans rfl; have hfz6_0 := blk_frozen BK294.out 0; have hfz6_1 := blk_frozen BK294.out 1; have hfz6_2 := blk_frozen BK294.out 2; have hfz6_3 := blk_frozen BK294.out 3; have hfz6_4 := blk_frozen BK294.out 4; have hfz6_5 := blk_frozen BK294.out 5; have hfz6_6 := blk_frozen BK294.out 6; have hfz6_7 := blk_frozen BK294.out 7; have hfz6_8 := blk_frozen BK294.out 8) | ((with_reducible refine gate_callee (f := 31) rfl ?_); refine qL (some 5) Try.func31 #[.slice A0_6 l0_6.length c0_6] ?_; (with_reducible refine (antipodelaw8_Light.calls k _ _ l0_6 true _ ?side1 ?side2 A2.out).mono ?_); (case side1 => exact qC (Kd.C_below HR0_6.out HB.out)); (case side2 => exact HC0_6.out); rintro e w' ⟨rfl, ⟨nd, rfl⟩⟩; refine ⟨_, rfl, ?_⟩))
   go_ret
   exact ⟨by first | rfl | (simp [errW_none, errW_some] <;> rfl) | (simp [*, errW_none, errW_some] <;> rfl), qB HB.out⟩
  ·rw [if_neg c4] at H
   have c4b0 : decide ((l0_7.length : Int) < 100) = false := decide_eq_false c4
   have c4b1 : decide (l0_7.length < 100) = false := decide_eq_false (by omega)
   clear c4
   obtain rfl := Option.some.inj H
   go_enter Try.func9, Try.ntmps9
   go_wp2_with (first | ((with_reducible refine gate_dst (N := 1) rfl ?_); (try (refine gate_guard (by rfl) ?_; dsimp only)); refine qX 1 #[.int .i64 a0_0, .int .i64 a0_1, .int .i64 a0_2, .int .i64 a0_3, .int .i64 a0_4, .int .i64 a0_5, .slice A0_6 l0_6.length c0_6, .slice A0_7 l0_7.length c0_7, .slice A0_8 l0_8.length c0_8] 33 ?_; intro gb294 hg w7 hbox hb; have BK294 := Aside0.mk (hbox); have GW294 := Aside0.mk ((qZ HB.out hg)); have GE294 := Aside0.mk ((qZ HB.out hg)); replace HB := Aside0.mk (below_step (qB HB.out) hb); clear hb hbox hg; have hcz8_0 : w7.cell? ⟨gb294, 0, none⟩ = some (.int .i64 a0_0) := (blk_cell BK294.out 0).trans rfl; have hcz8_1 : w7.cell? ⟨gb294, 1, none⟩ = some (.int .i64 a0_1) := (blk_cell BK294.out 1).trans rfl; have hcz8_2 : w7.cell? ⟨gb294, 2, none⟩ = some (.int .i64 a0_2) := (blk_cell BK294.out 2).trans rfl; have hcz8_3 : w7.cell? ⟨gb294, 3, none⟩ = some (.int .i64 a0_3) := (blk_cell BK294.out 3).trans rfl; have hcz8_4 : w7.cell? ⟨gb294, 4, none⟩ = some (.int .i64 a0_4) := (blk_cell BK294.out 4).trans rfl; have hcz8_5 : w7.cell? ⟨gb294, 5, none⟩ = some (.int .i64 a0_5) := (blk_cell BK294.out 5).trans rfl; have hcz8_6 : w7.cell? ⟨gb294, 6, none⟩ = some (.slice A0_6 l0_6.length c0_6) := (blk_cell BK294.out 6).trans rfl; have hcz8_7 : w7.cell? ⟨gb294, 7, none⟩ = some (.slice A0_7 l0_7.length c0_7) := (blk_cell BK294.out 7).trans rfl; have hcz8_8 : w7.cell? ⟨gb294, 8, none⟩ = some (.slice A0_8 l0_8.length c0_8) := (blk_cell BK294.out 8).trans rfl; have hfz8_0 := blk_frozen BK294.out 0; have hfz8_1 := blk_frozen BK294.out 1; have hfz8_2 := blk_frozen BK294.out 2; have hfz8_3 := blk_frozen BK294.out 3; have hfz8_4 := blk_frozen BK294.out 4; have hfz8_5 := blk_frozen BK294.out 5; have hfz8_6 := blk_frozen BK294.out 6; have hfz8_7 := blk_frozen BK294.out 7; have hfz8_8 := blk_frozen BK294.out 8) | ((with_reducible refine gate_callee (f := 31) rfl ?_); refine qL (some 5) Try.func31 #[.slice A0_6 l0_6.length c0_6] ?_; (with_reducible refine (antipodelaw8_Light.calls k _ _ l0_6 true _ ?side1 ?side2 A2.out).mono ?_); (case side1 => exact qC (Kd.C_below HR0_6.out HB.out)); (case side2 => exact HC0_6.out); rintro e w' ⟨rfl, ⟨nd, rfl⟩⟩; refine ⟨_, rfl, ?_⟩))
   go_ret
   exact ⟨by first | rfl | (simp [errW_none, errW_some] <;> rfl) | (simp [*, errW_none, errW_some] <;> rfl), qB HB.out⟩
 ·replace c3 := Bool.eq_false_iff.mpr c3
  subst c3
  have H1 : (some false) = some r := by rw [if_neg (show ¬ (false = true) by decide)] at H; exact H
  clear H
  have H := H1
  clear H1
  obtain rfl := Option.some.inj H
  go_enter Try.func9, Try.ntmps9
  go_wp2_with (first | ((with_reducible refine gate_dst (N := 1) rfl ?_); (try (refine gate_guard (by rfl) ?_; dsimp only)); refine qX 1 #[.int .i64 a0_0, .int .i64 a0_1, .int .i64 a0_2, .int .i64 a0_3, .int .i64 a0_4, .int .i64 a0_5, .slice A0_6 l0_6.length c0_6, .slice A0_7 l0_7.length c0_7, .slice A0_8 l0_8.length c0_8] 33 ?_; intro gb294 hg w9 hbox hb; have BK294 := Aside0.mk (hbox); have GW294 := Aside0.mk ((qZ HB.out hg)); have GE294 := Aside0.mk ((qZ HB.out hg)); replace HB := Aside0.mk (below_step (qB HB.out) hb); clear hb hbox hg; have hcz10_0 : w9.cell? ⟨gb294, 0, none⟩ = some (.int .i64 a0_0) := (blk_cell BK294.out 0).trans rfl; have hcz10_1 : w9.cell? ⟨gb294, 1, none⟩ = some (.int .i64 a0_1) := (blk_cell BK294.out 1).trans rfl; have hcz10_2 : w9.cell? ⟨gb294, 2, none⟩ = some (.int .i64 a0_2) := (blk_cell BK294.out 2).trans rfl; have hcz10_3 : w9.cell? ⟨gb294, 3, none⟩ = some (.int .i64 a0_3) := (blk_cell BK294.out 3).trans rfl; have hcz10_4 : w9.cell? ⟨gb294, 4, none⟩ = some (.int .i64 a0_4) := (blk_cell BK294.out 4).trans rfl; have hcz10_5 : w9.cell? ⟨gb294, 5, none⟩ = some (.int .i64 a0_5) := (blk_cell BK294.out 5).trans rfl; have hcz10_6 : w9.cell? ⟨gb294, 6, none⟩ = some (.slice A0_6 l0_6.length c0_6) := (blk_cell BK294.out 6).trans rfl; have hcz10_7 : w9.cell? ⟨gb294, 7, none⟩ = some (.slice A0_7 l0_7.length c0_7) := (blk_cell BK294.out 7).trans rfl; have hcz10_8 : w9.cell? ⟨gb294, 8, none⟩ = some (.slice A0_8 l0_8.length c0_8) := (blk_cell BK294.out 8).trans rfl; have hfz10_0 := blk_frozen BK294.out 0; have hfz10_1 := blk_frozen BK294.out 1; have hfz10_2 := blk_frozen BK294.out 2; have hfz10_3 := blk_frozen BK294.out 3; have hfz10_4 := blk_frozen BK294.out 4; have hfz10_5 := blk_frozen BK294.out 5; have hfz10_6 := blk_frozen BK294.out 6; have hfz10_7 := blk_frozen BK294.out 7; have hfz10_8 := blk_frozen BK294.out 8) | ((with_reducible refine gate_callee (f := 31) rfl ?_); refine qL (some 5) Try.func31 #[.slice A0_6 l0_6.length c0_6] ?_; (with_reducible refine (antipodelaw8_Light.calls k _ _ l0_6 false _ ?side1 ?side2 A2.out).mono ?_); (case side1 => exact qC (Kd.C_below HR0_6.out HB.out)); (case side2 => exact HC0_6.out); rintro e w' ⟨rfl, ⟨nd, rfl⟩⟩; refine ⟨_, rfl, ?_⟩))
  go_ret
  exact ⟨by first | rfl | (simp [errW_none, errW_some] <;> rfl) | (simp [*, errW_none, errW_some] <;> rfl), qB HB.out⟩
def antipoderef1_Var.l0 : Nat → Int → List Int → Option (List Int)
 | 0, _, _ => none
 | k + 1, x1, x5 => if x1 ≥ 128 then (if x5.length < 140737488355328 then (antipoderef1_Var.l0 k (IntKind.u64.wrap (Int.tdiv x1 128)) (x5 ++ [((Int.tmod x1 128) + 128) % 256])) else (none)) else (if x5.length < 140737488355328 then (some (x5 ++ [(x1) % 256])) else (none))
def antipoderef1_Var.f (k : Nat) (l0 : List Int) (a1 : Int) : Option (List Int) := (some (([] : List Int) : List Int)).bind fun y296 => (if y296.length + l0.length < 140737488355328 then (antipoderef1_Var.l0 k a1 (y296 ++ l0)) else (none))
set_option maxHeartbeats 8000000 in
set_option maxRecDepth 100000 in
theorem antipoderef1_Var.calls (k : Nat) (A0 : Option Addr) (c0 : Nat) (l0 : List Int) (a1 : Int) (r : List Int) (w : World) (hr0 : Kd.C (Kd.int .u8) w A0 l0.length l0) (hc0 : l0.length ≤ c0) (h : antipoderef1_Var.f k l0 a1 = some r) :
  Calls Try.prog 85 #[.slice A0 l0.length c0, .int .u64 a1] w fun e w' => ∃ v0_ : Value, e = .returned (v0_) ∧ Kd.R (Kd.int .u8) 5 w' w.heap.size (fun _ => True) v0_ r ∧ Below w.heap.size w w' := by
 have HR0 := Aside0.mk hr0
 have HC0 := Aside0.mk hc0
 clear hr0 hc0
 have HB := Aside0.mk (Below.refl w.heap.size w)
 have H : ((some (([] : List Int) : List Int)).bind fun y296 => (if y296.length + l0.length < 140737488355328 then (antipoderef1_Var.l0 k a1 (y296 ++ l0)) else (none))) = some r := h
 clear h
 obtain ⟨y296, hy296⟩ : ∃ y_ : List Int, y_ = (([] : List Int)) := ⟨_, rfl⟩
 replace H : (if y296.length + l0.length < 140737488355328 then (antipoderef1_Var.l0 k a1 (y296 ++ l0)) else (none)) = some r := by first | (rw [hy296]; with_reducible exact H) | (have H2_ := (Option.bind_some _ _).symm.trans H; rw [hy296]; with_reducible exact H2_) | (have H2_ := (Option.bind_some _ _).symm.trans H; with_reducible exact H2_) | with_reducible exact H | (rw [hy296]; exact H) | exact H
 have Ny296 := Aside0.mk hy296
 clear hy296
 by_cases c3 : y296.length + l0.length < 140737488355328
 ·rw [if_pos c3] at H
  have LMc3 := Aside0.mk c3
  clear c3
  obtain ⟨y299, hy299⟩ : ∃ y_ : List Int, y_ = (y296 ++ l0) := ⟨_, rfl⟩
  replace H : (antipoderef1_Var.l0 k a1 y299) = some r := by first | (rw [hy299]; with_reducible exact H) | (have H2_ := (Option.bind_some _ _).symm.trans H; rw [hy299]; with_reducible exact H2_) | (have H2_ := (Option.bind_some _ _).symm.trans H; with_reducible exact H2_) | with_reducible exact H | (rw [hy299]; exact H) | exact H
  have Ny299 := Aside0.mk hy299
  clear hy299
  have H' := Aside0.mk H
  clear H
  go_enter Try.func85, Try.ntmps85
  go_wp2_with (first | ((with_reducible refine gate_dst (N := 6) rfl ?_); refine Kd.R_lit (Kd.int .u8) _ 5 ?hg (N := 6) ?hd (xs := ([] : List Int)) (inner := []) (ok := fun _ => True) (okp := fun _ => True) ?hr ?hp (fun _ hk => hk) trivial (Below.refl _ _) (Nat.le_refl _) (by simp) ?_; (case hd => rfl); (case hg => rfl); (case hr => first | (go_simp; done) | (go_simp; rfl)); (case hp => exact (Reps.none _ _)); intro v297 w4 ho5 hb hg_ hnew_; clear hg_ hnew_; (first | rw [← Ny296.out] at ho5 | (simp only [Int.reduceToNat] at ho5; rw [← Ny296.out] at ho5)); have HO298 := Aside0.mk (Kd.R_lower ho5 (below_size (qB HB.out))); replace HB := Aside0.mk (below_step (qB HB.out) hb); clear hb ho5) | ((with_reducible refine gate_builtin (b := .append) (xs := #[.tmp 6, .tmp 7]) rfl ?_); at_builtin; refine Kd.R_append_rows (Kd.int .u8) (w0 := w) w.heap.size rfl (.tmp 6) (.tmp 7) 46 5 (.int .u8 0) 1 rfl Try.underlying46 info5 rfl (by decide) (by omega) v297 y296 l0 _ _ _ (fun _ => True) (fun _ => False) rfl rfl ?aO ?aR (fun _ _ h => h) (fun _ h => h.elim) ?aF ?aB ?aS ?aL ?_; (case aR => exact qC (Kd.C_below HR0.out HB.out)); (case aB => exact (qB HB.out)); (case aF => exact (fun _ _ => trivial)); (case aO => exact (qR HO298.out)); (case aS => exact (below_size (qB HB.out))); (case aL => have := LMc3.out; omega); intro v300 w6 ho hb hg hat; rw [← Ny299.out] at ho; replace HB := Aside0.mk (hb); have HO301 := Aside0.mk (ho); clear HO298; clear ho hb hg hat))
  go_loopg [1, 5] k (fun kq v1 v5 w' => ∃ (x1_1 : Int) (x5_1 : List Int), v1 = .int .u64 x1_1 ∧ Aside0 (antipoderef1_Var.l0 kq x1_1 x5_1 = some r) ∧ Aside0 (kq ≤ k) ∧ Aside0 (Kd.R (Kd.int .u8) 5 w' w.heap.size (fun _ => True) v5 x5_1) ∧ Aside0 (Below w.heap.size w w'))
  case atStart => exact ⟨(a1), (y299), (by first | rfl | (simp; done) | (simp [*]; done)), H', ⟨Nat.le_refl _⟩, ⟨qR HO301.out⟩, ⟨qB HB.out⟩⟩
  case round =>
   clear H'
   try clear p2
   try clear c3
   obtain ⟨x1_1, x5_1, rfl, HA, HK1, HO_5, HB⟩ := hrel
   cases gk with
   | zero => exact absurd HA.out (by simp [antipoderef1_Var.l0])
   | succ k1 =>
    have H := HA.out
    clear HA
    simp only [antipoderef1_Var.l0] at H
    by_cases c7 : x1_1 ≥ 128
    ·rw [if_pos c7] at H
     have c7b0 : decide (128 ≤ x1_1) = true := decide_eq_true c7
     clear c7
     by_cases c8 : x5_1.length < 140737488355328
     ·rw [if_pos c8] at H
      have LMc8 := Aside0.mk c8
      clear c8
      obtain ⟨y302, hy302⟩ : ∃ y_ : List Int, y_ = (x5_1 ++ [((Int.tmod x1_1 128) + 128) % 256]) := ⟨_, rfl⟩
      replace H : (antipoderef1_Var.l0 k1 (IntKind.u64.wrap (Int.tdiv x1_1 128)) y302) = some r := by first | (rw [hy302]; with_reducible exact H) | (have H2_ := (Option.bind_some _ _).symm.trans H; rw [hy302]; with_reducible exact H2_) | (have H2_ := (Option.bind_some _ _).symm.trans H; with_reducible exact H2_) | with_reducible exact H | (rw [hy302]; exact H) | exact H
      have Ny302 := Aside0.mk hy302
      clear hy302
      have H' := Aside0.mk H
      clear H
      go_wp2_with (first | ((with_reducible refine gate_builtin (b := .append) (xs := #[.tmp 11, .tmp 16]) rfl ?_); at_builtin; refine Kd.R_append (Kd.int .u8) (w0 := w) w.heap.size rfl (.tmp 11) (.tmp 16) 46 5 (.int .u8 0) 1 rfl Try.underlying46 info5 rfl (by decide) (by omega) u5 x5_1 (((Int.tmod x1_1 128) + 128) % 256) [.int .u8 (((Int.tmod x1_1 128) + 128) % 256)] (fun _ => True) (fun _ => False) rfl rfl ?aP (fun _ hk => hk.elim) ?aF ?aO ?aB ?aS ?aL ?_; (case aP => exact rfl); (case aB => exact (qB HB.out)); (case aF => exact (fun _ _ => trivial)); (case aO => exact (qR HO_5.out)); (case aS => exact (below_size (qB HB.out))); (case aL => have := LMc8.out; omega); intro v303 w9 ho hb hg hat; rw [← Ny302.out] at ho; replace HB := Aside0.mk (hb); have HO304 := Aside0.mk (ho); clear HO_5; clear ho hb hg hat))
      go_roundg k1
      case measure => have := HK1.out; omega
      case rel => exact ⟨(IntKind.u64.wrap (Int.tdiv x1_1 128)), (y302), (by first | rfl | (simp; done) | (simp [*]; done)), H', ⟨by have := HK1.out; omega⟩, ⟨qR HO304.out⟩, ⟨qB HB.out⟩⟩
     ·rw [if_neg c8] at H
      exact absurd H (by simp)
    ·rw [if_neg c7] at H
     have c7b0 : decide (128 ≤ x1_1) = false := decide_eq_false c7
     clear c7
     by_cases c10 : x5_1.length < 140737488355328
     ·rw [if_pos c10] at H
      have LMc10 := Aside0.mk c10
      clear c10
      obtain ⟨y305, hy305⟩ : ∃ y_ : List Int, y_ = (x5_1 ++ [(x1_1) % 256]) := ⟨_, rfl⟩
      replace H : (some y305) = some r := by first | (rw [hy305]; with_reducible exact H) | (have H2_ := (Option.bind_some _ _).symm.trans H; rw [hy305]; with_reducible exact H2_) | (have H2_ := (Option.bind_some _ _).symm.trans H; with_reducible exact H2_) | with_reducible exact H | (rw [hy305]; exact H) | exact H
      have Ny305 := Aside0.mk hy305
      clear hy305
      obtain rfl := Option.some.inj H
      go_wp2_with (first | ((with_reducible refine gate_builtin (b := .append) (xs := #[.tmp 20, .tmp 23]) rfl ?_); at_builtin; refine Kd.R_append (Kd.int .u8) (w0 := w) w.heap.size rfl (.tmp 20) (.tmp 23) 46 5 (.int .u8 0) 1 rfl Try.underlying46 info5 rfl (by decide) (by omega) u5 x5_1 ((x1_1) % 256) [.int .u8 ((x1_1) % 256)] (fun _ => True) (fun _ => False) rfl rfl ?aP (fun _ hk => hk.elim) ?aF ?aO ?aB ?aS ?aL ?_; (case aP => exact rfl); (case aB => exact (qB HB.out)); (case aF => exact (fun _ _ => trivial)); (case aO => exact (qR HO_5.out)); (case aS => exact (below_size (qB HB.out))); (case aL => have := LMc10.out; omega); intro v306 w11 ho hb hg hat; rw [← Ny305.out] at ho; replace HB := Aside0.mk (hb); have HO307 := Aside0.mk (ho); clear HO_5; clear ho hb hg hat))
      go_ret
      exact ⟨_, by first | rfl | (simp [errW_none, errW_some] <;> rfl) | (simp [*, errW_none, errW_some] <;> rfl), qR HO307.out, qB HB.out⟩
     ·rw [if_neg c10] at H
      exact absurd H (by simp)
 ·rw [if_neg c3] at H
  exact absurd H (by simp)
def antipoderef1_Zig.f (a0 : Int) : Option (Int) := if a0 ≥ 0 then (some (IntKind.u64.wrap (2 * (IntKind.u64.wrap (a0))))) else (some (IntKind.u64.wrap ((IntKind.u64.wrap (2 * (IntKind.u64.wrap (wrap64 (-(wrap64 (a0 + 1))))))) + 1)))
set_option maxHeartbeats 8000000 in
set_option maxRecDepth 100000 in
theorem antipoderef1_Zig.calls (a0 : Int) (r : Int) (w : World) (h : antipoderef1_Zig.f a0 = some r) :
  Calls Try.prog 86 #[.int .i64 a0] w fun e w' => e = .returned (.int .u64 r) ∧ Drawn0 w w' := by
 have H : (if a0 ≥ 0 then (some (IntKind.u64.wrap (2 * (IntKind.u64.wrap (a0))))) else (some (IntKind.u64.wrap ((IntKind.u64.wrap (2 * (IntKind.u64.wrap (wrap64 (-(wrap64 (a0 + 1))))))) + 1)))) = some r := h
 clear h
 by_cases c2 : a0 ≥ 0
 ·rw [if_pos c2] at H
  have c2b0 : decide (0 ≤ a0) = true := decide_eq_true c2
  clear c2
  obtain rfl := Option.some.inj H
  go_enter Try.func86, Try.ntmps86
  go_wp2
  go_ret
  exact ⟨by first | rfl | (simp; done) | (simp [*]; done), by repeat (first | exact Drawn0.refl _ | apply Drawn0.step)⟩
 ·rw [if_neg c2] at H
  have c2b0 : decide (0 ≤ a0) = false := decide_eq_false c2
  clear c2
  obtain rfl := Option.some.inj H
  go_enter Try.func86, Try.ntmps86
  go_wp2
  go_ret
  exact ⟨by first | rfl | (simp; done) | (simp [*]; done), by repeat (first | exact Drawn0.refl _ | apply Drawn0.step)⟩
def antipoderef14_n.f (k : Nat) (l0 : List Int) (a1 : Int) : Option (List Int) := (antipoderef1_Zig.f a1).bind fun t308 => ((antipoderef1_Var.f k l0 t308).bind fun t309 => (some t309))
set_option maxHeartbeats 8000000 in
set_option maxRecDepth 100000 in
theorem antipoderef14_n.calls (k : Nat) (A0 : Option Addr) (c0 : Nat) (l0 : List Int) (a1 : Int) (r : List Int) (w : World) (hr0 : Kd.C (Kd.int .u8) w A0 l0.length l0) (hc0 : l0.length ≤ c0) (h : antipoderef14_n.f k l0 a1 = some r) :
  Calls Try.prog 48 #[.slice A0 l0.length c0, .int .i64 a1] w fun e w' => ∃ v0_ : Value, e = .returned (v0_) ∧ Kd.R (Kd.int .u8) 5 w' w.heap.size (fun _ => True) v0_ r ∧ Below w.heap.size w w' := by
 have HR0 := Aside0.mk hr0
 have HC0 := Aside0.mk hc0
 clear hr0 hc0
 have HB := Aside0.mk (Below.refl w.heap.size w)
 have H : ((antipoderef1_Zig.f a1).bind fun t308 => ((antipoderef1_Var.f k l0 t308).bind fun t309 => (some t309))) = some r := h
 clear h
 replace H := Option.bind_eq_some_iff.mp H
 obtain ⟨t308, A30, H⟩ := H
 replace H : ((antipoderef1_Var.f k l0 t308).bind fun t309 => (some t309)) = some r := H
 have A3 := Aside0.mk A30
 clear A30
 replace H := Option.bind_eq_some_iff.mp H
 obtain ⟨t309, A40, H⟩ := H
 replace H : (some t309) = some r := H
 have A4 := Aside0.mk A40
 clear A40
 obtain rfl := Option.some.inj H
 go_enter Try.func48, Try.ntmps48
 go_wp2_with (first | ((with_reducible refine gate_callee (f := 86) rfl ?_); refine qL (some 7) Try.func86 #[.int .i64 a1] ?_; (with_reducible refine (antipoderef1_Zig.calls a1 t308 _ A3.out).mono ?_); rintro e w' ⟨rfl, ⟨nd, rfl⟩⟩; refine ⟨_, rfl, ?_⟩) | ((with_reducible refine gate_callee (f := 85) rfl ?_); refine qL (some 8) Try.func85 #[.slice A0 l0.length c0, .int .u64 t308] ?_; (with_reducible refine (antipoderef1_Var.calls k _ _ l0 t308 t309 _ ?side1 ?side2 A4.out).mono ?_); (case side1 => exact qC HR0.out); (case side2 => exact HC0.out); rintro e w5 ⟨v310, rfl, ho0, hb⟩; refine ⟨_, rfl, ?_⟩; have HO311 := Aside0.mk (Kd.R_lower ho0 (below_size (qB HB.out))); replace HB := Aside0.mk (below_step (qB HB.out) hb); (try clear hb); (try clear hb2); (try clear hk); (try clear hi); (try clear ho0)))
 go_ret
 exact ⟨_, by first | rfl | (simp [errW_none, errW_some] <;> rfl) | (simp [*, errW_none, errW_some] <;> rfl), qR HO311.out, qB HB.out⟩
def antipoderef14_f.f (l0 : List Int) (a1 : Bool) : Option (List Int) := if a1 = true then (if l0.length < 140737488355328 then (some (l0 ++ [1])) else (none)) else (if l0.length < 140737488355328 then (some (l0 ++ [0])) else (none))
set_option maxHeartbeats 8000000 in
set_option maxRecDepth 100000 in
theorem antipoderef14_f.calls (P0_ : Nat → Prop) (u9000_ : Value) (l0 : List Int) (a1 : Bool) (r : List Int) (w0 w : World) (hB : Below w0.heap.size w0 w) (ho0 : Kd.R (Kd.int .u8) 5 w w0.heap.size P0_ u9000_ l0) (h : antipoderef14_f.f l0 a1 = some r) :
  Calls Try.prog 49 #[u9000_, .bool a1] w fun e w' => ∃ v0_ : Value, e = .returned (v0_) ∧ Kd.R (Kd.int .u8) 5 w' w0.heap.size (fun k_ => (P0_ k_ ∨ w.heap.size ≤ k_)) v0_ r ∧ Below w0.heap.size w0 w' ∧ Kept w w' (fun k_ => P0_ k_) := by
 have HO0 := Aside0.mk (show Kd.R (Kd.int .u8) 5 w w0.heap.size (fun k_ => (P0_ k_ ∨ w.heap.size ≤ k_)) u9000_ l0 from Kd.R_mono ho0 (fun k_ hk => (.inl hk)))
 have HK := Aside0.mk (Kept.refl w (fun k_ => P0_ k_))
 have HW0 := Aside0.mk hB.size
 have HB := Aside0.mk hB
 clear hB
 have H : (if a1 = true then (if l0.length < 140737488355328 then (some (l0 ++ [1])) else (none)) else (if l0.length < 140737488355328 then (some (l0 ++ [0])) else (none))) = some r := h
 clear h
 by_cases c3 : a1 = true
 ·subst c3
  have H1 : (if l0.length < 140737488355328 then (some (l0 ++ [1])) else (none)) = some r := by rw [if_pos rfl] at H; exact H
  clear H
  have H := H1
  clear H1
  by_cases c4 : l0.length < 140737488355328
  ·rw [if_pos c4] at H
   have LMc4 := Aside0.mk c4
   clear c4
   obtain ⟨y312, hy312⟩ : ∃ y_ : List Int, y_ = (l0 ++ [1]) := ⟨_, rfl⟩
   replace H : (some y312) = some r := by first | (rw [hy312]; with_reducible exact H) | (have H2_ := (Option.bind_some _ _).symm.trans H; rw [hy312]; with_reducible exact H2_) | (have H2_ := (Option.bind_some _ _).symm.trans H; with_reducible exact H2_) | with_reducible exact H | (rw [hy312]; exact H) | exact H
   have Ny312 := Aside0.mk hy312
   clear hy312
   obtain rfl := Option.some.inj H
   go_enter Try.func49, Try.ntmps49
   go_wp2_with (first | ((with_reducible refine gate_builtin (b := .append) (xs := #[.tmp 6, .tmp 7]) rfl ?_); at_builtin; refine Kd.R_append (Kd.int .u8) (w0 := w0) w0.heap.size rfl (.tmp 6) (.tmp 7) 46 5 (.int .u8 0) 1 rfl Try.underlying46 info5 rfl (by decide) (by omega) u9000_ l0 1 [.int .u8 1] (fun k_ => (P0_ k_ ∨ w.heap.size ≤ k_)) (fun _ => False) rfl rfl ?aP (fun _ hk => hk.elim) ?aF ?aO ?aB ?aS ?aL ?_; (case aP => exact rfl); (case aB => exact (qB HB.out)); (case aF => exact (fun k_ hk => (.inr (Nat.le_trans (by first | exact HK.out.1 | exact (show Kept w _ (fun k_ => P0_ k_) from qP HK.out).1) hk)))); (case aO => exact (qR HO0.out)); (case aS => exact (below_size (qB HB.out))); (case aL => have := LMc4.out; omega); intro v313 w5 ho hb hg hat; rw [← Ny312.out] at ho; replace HB := Aside0.mk (hb); replace HK := Aside0.mk (Kept.of_grown (S := (fun k_ => P0_ k_)) hg (qP HK.out) (fun k_ e_ => (HO0.out.1 k_ e_))); have HO314 := Aside0.mk (ho); clear HO0; clear ho hb hg hat))
   go_ret
   exact ⟨_, by first | rfl | (simp [errW_none, errW_some] <;> rfl) | (simp [*, errW_none, errW_some] <;> rfl), qR HO314.out, qB HB.out, qP HK.out⟩
  ·rw [if_neg c4] at H
   exact absurd H (by simp)
 ·replace c3 := Bool.eq_false_iff.mpr c3
  subst c3
  have H1 : (if l0.length < 140737488355328 then (some (l0 ++ [0])) else (none)) = some r := by rw [if_neg (show ¬ (false = true) by decide)] at H; exact H
  clear H
  have H := H1
  clear H1
  by_cases c6 : l0.length < 140737488355328
  ·rw [if_pos c6] at H
   have LMc6 := Aside0.mk c6
   clear c6
   obtain ⟨y315, hy315⟩ : ∃ y_ : List Int, y_ = (l0 ++ [0]) := ⟨_, rfl⟩
   replace H : (some y315) = some r := by first | (rw [hy315]; with_reducible exact H) | (have H2_ := (Option.bind_some _ _).symm.trans H; rw [hy315]; with_reducible exact H2_) | (have H2_ := (Option.bind_some _ _).symm.trans H; with_reducible exact H2_) | with_reducible exact H | (rw [hy315]; exact H) | exact H
   have Ny315 := Aside0.mk hy315
   clear hy315
   obtain rfl := Option.some.inj H
   go_enter Try.func49, Try.ntmps49
   go_wp2_with (first | ((with_reducible refine gate_builtin (b := .append) (xs := #[.tmp 9, .tmp 10]) rfl ?_); at_builtin; refine Kd.R_append (Kd.int .u8) (w0 := w0) w0.heap.size rfl (.tmp 9) (.tmp 10) 46 5 (.int .u8 0) 1 rfl Try.underlying46 info5 rfl (by decide) (by omega) u9000_ l0 0 [.int .u8 0] (fun k_ => (P0_ k_ ∨ w.heap.size ≤ k_)) (fun _ => False) rfl rfl ?aP (fun _ hk => hk.elim) ?aF ?aO ?aB ?aS ?aL ?_; (case aP => exact rfl); (case aB => exact (qB HB.out)); (case aF => exact (fun k_ hk => (.inr (Nat.le_trans (by first | exact HK.out.1 | exact (show Kept w _ (fun k_ => P0_ k_) from qP HK.out).1) hk)))); (case aO => exact (qR HO0.out)); (case aS => exact (below_size (qB HB.out))); (case aL => have := LMc6.out; omega); intro v316 w7 ho hb hg hat; rw [← Ny315.out] at ho; replace HB := Aside0.mk (hb); replace HK := Aside0.mk (Kept.of_grown (S := (fun k_ => P0_ k_)) hg (qP HK.out) (fun k_ e_ => (HO0.out.1 k_ e_))); have HO317 := Aside0.mk (ho); clear HO0; clear ho hb hg hat))
   go_ret
   exact ⟨_, by first | rfl | (simp [errW_none, errW_some] <;> rfl) | (simp [*, errW_none, errW_some] <;> rfl), qR HO317.out, qB HB.out, qP HK.out⟩
  ·rw [if_neg c6] at H
   exact absurd H (by simp)
end Go.Proofs.Ytjfgapaohldbkaa.QA


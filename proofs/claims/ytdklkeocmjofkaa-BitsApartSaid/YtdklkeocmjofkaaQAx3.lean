/- Written by a program of this session (wip/myprint.sh): contracts of Go functions of the translation: each call comes to what the Lean function of its name says. -/
import Derived.Test.YtdklkeocmjofkaaQAx0
import Derived.Test.YtdklkeocmjofkaaQAx1
import Derived.Test.YtdklkeocmjofkaaQAx2
namespace Go.Proofs.Ytdklkeocmjofkaa.QA
open Go.RowKit Go.Proofs.YtdklkeocmjofkaaW.PrintWords Go.Proofs.YtdklkeocmjofkaaW.PrintLast Go.Proofs.YtdklkeocmjofkaaW.PrintMore
attribute [local go_sem] max2_int min2_int max_two min_two max_three min_three max_four min_four   -- for this text's walks alone
set_option linter.unusedVariables false
set_option linter.unusedSimpArgs false

/-! ### bits_TakeVar: function 30 -/
mutual
def bits_TakeVar.l0 : Nat → Int → List Int → Int → Int → Option (Int × Int × Int)
  | 0, _, _, _, _ => none
  | k + 1, x2, x7, x8, x9 => if x9 < x8 then (if 0 ≤ x9 then (if x9 < (x7.length : Int) then (if x9 = 9 then (bits_TakeVar.j1 k x2 x9 (rd x7 x9) x7 x8 x9 (decide ((rd x7 x9) > 1))) else (bits_TakeVar.j1 k x2 x9 (rd x7 x9) x7 x8 x9 false)) else (none)) else (none)) else (some (0, 0, 2))
def bits_TakeVar.j1 : Nat → Int → Int → Int → List Int → Int → Int → Bool → Option (Int × Int × Int)
  | 0, _, _, _, _, _, _, _ => none
  | k + 1, x2, x5, x6, x7, x8, x9, x19 => if x19 = true then (some (0, 0, 5)) else (if 0 ≤ (IntKind.u64.wrap (wrap64 (7 * x5))) then (if x6 ≥ 128 then (bits_TakeVar.l0 k (Go.bits .or .u64 x2 (shl .u64 (IntKind.u64.wrap (Go.bits .andNot .u8 x6 128)) (IntKind.u64.wrap (wrap64 (7 * x5))))) x7 x8 (wrap64 (x9 + 1))) else (if x6 = 0 then (if x5 > 0 then (some (0, 0, 9)) else (some (Go.bits .or .u64 x2 (shl .u64 (IntKind.u64.wrap (Go.bits .andNot .u8 x6 128)) (IntKind.u64.wrap (wrap64 (7 * x5)))), wrap64 (x5 + 1), 0))) else (some (Go.bits .or .u64 x2 (shl .u64 (IntKind.u64.wrap (Go.bits .andNot .u8 x6 128)) (IntKind.u64.wrap (wrap64 (7 * x5)))), wrap64 (x5 + 1), 0)))) else (none))
end
def bits_TakeVar.f (k : Nat) (l0 : List Int) : Option (Int × Int × Int) := bits_TakeVar.l0 k 0 l0 (l0.length : Int) 0
theorem bits_TakeVar.mono_l : ∀ k, (∀ y0 y1 y2 y3, LeO (bits_TakeVar.l0 k y0 y1 y2 y3) (bits_TakeVar.l0 (k + 1) y0 y1 y2 y3)) ∧ (∀ y0 y1 y2 y3 y4 y5 y6, LeO (bits_TakeVar.j1 k y0 y1 y2 y3 y4 y5 y6) (bits_TakeVar.j1 (k + 1) y0 y1 y2 y3 y4 y5 y6))
  | 0 => ⟨fun _ _ _ _ r h => by simp [bits_TakeVar.l0] at h, fun _ _ _ _ _ _ _ r h => by simp [bits_TakeVar.j1] at h⟩
  | k + 1 => by
    obtain ⟨ih0, ih1⟩ := bits_TakeVar.mono_l k
    refine ⟨?_, ?_⟩
    · intro y0 y1 y2 y3
      unfold bits_TakeVar.l0
      repeat' first
      | (with_reducible exact ih0 _ _ _ _)
      | (with_reducible exact ih1 _ _ _ _ _ _ _)
      | (with_reducible exact LeO.refl _)
      | (with_reducible exact LeO.none _)
      | (with_reducible refine LeO.ite ?_ ?_)
      | (with_reducible refine LeO.bind ?_ (fun _ => ?_))
      | exact ih0 _ _ _ _
      | exact ih1 _ _ _ _ _ _ _
      | exact LeO.none _
      | refine LeO.ite ?_ ?_
      | refine LeO.bind ?_ (fun _ => ?_)
    · intro y0 y1 y2 y3 y4 y5 y6
      unfold bits_TakeVar.j1
      repeat' first
      | (with_reducible exact ih0 _ _ _ _)
      | (with_reducible exact ih1 _ _ _ _ _ _ _)
      | (with_reducible exact LeO.refl _)
      | (with_reducible exact LeO.none _)
      | (with_reducible refine LeO.ite ?_ ?_)
      | (with_reducible refine LeO.bind ?_ (fun _ => ?_))
      | exact ih0 _ _ _ _
      | exact ih1 _ _ _ _ _ _ _
      | exact LeO.none _
      | refine LeO.ite ?_ ?_
      | refine LeO.bind ?_ (fun _ => ?_)
theorem bits_TakeVar.mono : ∀ a0 k, LeO (bits_TakeVar.f k a0) (bits_TakeVar.f (k + 1) a0) := by
  intro a0 k
  obtain ⟨ih0, ih1⟩ := bits_TakeVar.mono_l k
  unfold bits_TakeVar.f
  repeat' first
      | (with_reducible exact ih0 _ _ _ _)
      | (with_reducible exact ih1 _ _ _ _ _ _ _)
      | (with_reducible exact LeO.refl _)
      | (with_reducible exact LeO.none _)
      | (with_reducible refine LeO.ite ?_ ?_)
      | (with_reducible refine LeO.bind ?_ (fun _ => ?_))
      | exact ih0 _ _ _ _
      | exact ih1 _ _ _ _ _ _ _
      | exact LeO.none _
      | refine LeO.ite ?_ ?_
      | refine LeO.bind ?_ (fun _ => ?_)
set_option maxHeartbeats 8000000 in
set_option maxRecDepth 100000 in
theorem bits_TakeVar.calls (k : Nat) (A0 : Option Addr) (c0 : Nat) (l0 : List Int) (r1 : Int) (r2 : Int) (r3 : Int) (w : World) (hr0 : Kd.C (Kd.int .u8) w A0 l0.length l0) (hc0 : l0.length ≤ c0) (h : bits_TakeVar.f k l0 = some (r1, r2, r3)) :
    Calls Try.prog 30 #[.slice A0 l0.length c0] w fun e w' => e = .returned (.tuple #[.int .u64 r1, .int .i64 r2, .int .i64 r3]) ∧ Drawn0 w w' := by
  have HR0 := Aside0.mk hr0
  have HC0 := Aside0.mk hc0
  clear hr0 hc0
  have H : (bits_TakeVar.l0 k 0 l0 (l0.length : Int) 0) = some (r1, r2, r3) := h
  clear h
  have H' := Aside0.mk H
  clear H
  go_enter Try.func30, Try.ntmps30
  go_wp2
  go_loopg [2, 9] k (fun kq v2 v9 w' => ∃ (x2_1 : Int) (x9_1 : Int), v2 = .int .u64 x2_1 ∧ v9 = .int .i64 x9_1 ∧ Aside0 (bits_TakeVar.l0 kq x2_1 l0 (l0.length : Int) x9_1 = some (r1, r2, r3)) ∧ Aside0 (kq ≤ k) ∧ Drawn0 w w')
  case atStart => exact ⟨(0), (0), (by first | rfl | (simp; done) | (simp [*]; done)), (by first | rfl | (simp; done) | (simp [*]; done)), H', ⟨Nat.le_refl _⟩, by repeat (first | exact Drawn0.refl _ | apply Drawn0.step)⟩
  case round =>
    clear H'
    obtain ⟨x2_1, x9_1, rfl, rfl, HA, HK1, ⟨m1, rfl⟩⟩ := hrel
    cases gk with
    | zero => exact absurd HA.out (by simp [bits_TakeVar.l0])
    | succ k1 =>
      have H := HA.out
      clear HA
      simp only [bits_TakeVar.l0] at H
      by_cases c2 : x9_1 < (l0.length : Int)
      · rw [if_pos c2] at H
        have c2b0 : decide (x9_1 < (l0.length : Int)) = true := decide_eq_true c2
        clear c2
        by_cases c3 : 0 ≤ x9_1
        · rw [if_pos c3] at H
          have c3b0 : decide (0 ≤ x9_1) = true := decide_eq_true c3
          clear c3
          by_cases c4 : x9_1 < (l0.length : Int)
          · rw [if_pos c4] at H
            have c4b0 : decide (x9_1 < (l0.length : Int)) = true := decide_eq_true c4
            clear c4
            have HC5 := Aside0.mk H
            clear H
            have p172 : 0 ≤ (x9_1 : Int) := of_decide_eq_true (by first | (with_reducible assumption) | assumption)
            have q172 : x9_1 < (l0.length : Int) := of_decide_eq_true (by first | (with_reducible assumption) | assumption)
            obtain ⟨ad172, e172, hx172_0⟩ := Kd.at_int HR0.out x9_1 p172 q172
            cases e172
            replace p172 := eq_true p172
            replace q172 := eq_true q172
            go_upto_region 4 with (fail)
            go_cut [19] (fun v19 wc => ∃ (kq : Nat) (x19_4 : Bool), v19 = .bool x19_4 ∧ Aside0 (bits_TakeVar.j1 kq x2_1 x9_1 (rd l0 x9_1) l0 (l0.length : Int) x9_1 x19_4 = some (r1, r2, r3)) ∧ Aside0 (kq ≤ k1) ∧ Drawn0 w wc)
            case first =>
              have H := HC5.out
              clear HC5
              by_cases c6 : x9_1 = 9
              · rw [if_pos c6] at H
                have c6b0 : (x9_1 == 9) = true := beq_iff_eq.mpr c6
                have c6b1 : (x9_1 != 9) = false := bne_eq_false_iff_eq.mpr c6
                clear c6
                (first | rw [c6b0] | (simp only [i64_w, i32_w]; rw [c6b0]) | skip)
                have H' := Aside0.mk H
                clear H
                go_wp2
                go_meet
                case rel => exact ⟨_, (decide ((rd l0 x9_1) > 1)), (by first | rfl | (simp; done) | (simp [*]; done)), H', ⟨by have := HK1.out; first | omega | exact Nat.le_refl _⟩, by repeat (first | exact Drawn0.refl _ | apply Drawn0.step)⟩
              · rw [if_neg c6] at H
                have c6b0 : (x9_1 == 9) = false := beq_eq_false_iff_ne.mpr c6
                have c6b1 : (x9_1 != 9) = true := bne_iff_ne.mpr c6
                (first | rw [c6b0] | (simp only [i64_w, i32_w]; rw [c6b0]) | skip)
                have H' := Aside0.mk H
                clear H
                go_wp2
                go_meet
                case rel => exact ⟨_, (false), (by first | rfl | (simp; done) | (simp [*]; done)), H', ⟨by have := HK1.out; first | omega | exact Nat.le_refl _⟩, by repeat (first | exact Drawn0.refl _ | apply Drawn0.step)⟩
            case rest =>
              clear HC5
              try clear p1
              try clear q1
              try clear hx1
              try clear c2
              try clear c2b0
              try clear p2
              try clear c3
              try clear c3b0
              try clear c4
              try clear c4b0
              try clear c6
              try clear c6b0
              try clear c6b1
              try clear hx172_0
              try clear p172
              try clear q172
              obtain ⟨kq, x19_4, rfl, HA, HJ4, ⟨mc4, rfl⟩⟩ := hcut
              cases kq with
              | zero => exact absurd HA.out (by simp [bits_TakeVar.j1])
              | succ kj4 =>
                have H := HA.out
                clear HA
                simp only [bits_TakeVar.j1] at H
                by_cases c7 : x19_4 = true
                · subst c7
                  have H1 : (some (0, 0, 5)) = some (r1, r2, r3) := by rw [if_pos rfl] at H; exact H
                  clear H
                  have H := H1
                  clear H1
                  simp only [Option.some.injEq, Prod.mk.injEq] at H
                  obtain ⟨rfl, rfl, rfl⟩ := H
                  go_wp2
                  go_ret3
                  exact ⟨by first | rfl | (simp; done) | (simp [*]; done), by repeat (first | exact Drawn0.refl _ | apply Drawn0.step)⟩
                · replace c7 := Bool.eq_false_iff.mpr c7
                  subst c7
                  have H1 : (if 0 ≤ (IntKind.u64.wrap (wrap64 (7 * x9_1))) then (if (rd l0 x9_1) ≥ 128 then (bits_TakeVar.l0 kj4 (Go.bits .or .u64 x2_1 (shl .u64 (IntKind.u64.wrap (Go.bits .andNot .u8 (rd l0 x9_1) 128)) (IntKind.u64.wrap (wrap64 (7 * x9_1))))) l0 (l0.length : Int) (wrap64 (x9_1 + 1))) else (if (rd l0 x9_1) = 0 then (if x9_1 > 0 then (some (0, 0, 9)) else (some (Go.bits .or .u64 x2_1 (shl .u64 (IntKind.u64.wrap (Go.bits .andNot .u8 (rd l0 x9_1) 128)) (IntKind.u64.wrap (wrap64 (7 * x9_1)))), wrap64 (x9_1 + 1), 0))) else (some (Go.bits .or .u64 x2_1 (shl .u64 (IntKind.u64.wrap (Go.bits .andNot .u8 (rd l0 x9_1) 128)) (IntKind.u64.wrap (wrap64 (7 * x9_1)))), wrap64 (x9_1 + 1), 0)))) else (none)) = some (r1, r2, r3) := by rw [if_neg (show ¬ (false = true) by decide)] at H; exact H
                  clear H
                  have H := H1
                  clear H1
                  obtain ⟨ji8, hji8⟩ : ∃ j_ : Int, (IntKind.u64.wrap (wrap64 (7 * x9_1))) = j_ := ⟨_, rfl⟩
                  replace H : (if 0 ≤ (ji8) then (if (rd l0 x9_1) ≥ 128 then (bits_TakeVar.l0 kj4 (Go.bits .or .u64 x2_1 (shl .u64 (IntKind.u64.wrap (Go.bits .andNot .u8 (rd l0 x9_1) 128)) (ji8))) l0 (l0.length : Int) (wrap64 (x9_1 + 1))) else (if (rd l0 x9_1) = 0 then (if x9_1 > 0 then (some (0, 0, 9)) else (some (Go.bits .or .u64 x2_1 (shl .u64 (IntKind.u64.wrap (Go.bits .andNot .u8 (rd l0 x9_1) 128)) (ji8)), wrap64 (x9_1 + 1), 0))) else (some (Go.bits .or .u64 x2_1 (shl .u64 (IntKind.u64.wrap (Go.bits .andNot .u8 (rd l0 x9_1) 128)) (ji8)), wrap64 (x9_1 + 1), 0)))) else (none)) = some (r1, r2, r3) := by first | (rw [hji8] at H; exact H) | (simp only [hji8] at H ⊢; exact H)
                  by_cases c9 : 0 ≤ (ji8)
                  · rw [if_pos c9] at H
                    have c9b0 := eq_true c9
                    have c9b1 : decide (0 ≤ (ji8)) = true := decide_eq_true c9
                    clear c9
                    obtain ⟨ji10, hji10⟩ : ∃ j_ : Int, (shl .u64 (IntKind.u64.wrap (Go.bits .andNot .u8 (rd l0 x9_1) 128)) (ji8)) = j_ := ⟨_, rfl⟩
                    replace H : (if (rd l0 x9_1) ≥ 128 then (bits_TakeVar.l0 kj4 (Go.bits .or .u64 x2_1 (ji10)) l0 (l0.length : Int) (wrap64 (x9_1 + 1))) else (if (rd l0 x9_1) = 0 then (if x9_1 > 0 then (some (0, 0, 9)) else (some (Go.bits .or .u64 x2_1 (ji10), wrap64 (x9_1 + 1), 0))) else (some (Go.bits .or .u64 x2_1 (ji10), wrap64 (x9_1 + 1), 0)))) = some (r1, r2, r3) := by first | (rw [hji10] at H; exact H) | (simp only [hji10] at H ⊢; exact H)
                    have hji10_ : (IntKind.u64.wrap ((IntKind.u64.wrap (Go.bits .andNot .u8 (rd l0 x9_1) 128)) * 2 ^ min (ji8).toNat 64)) = ji10 := hji10
                    have hji10z : (ji8) ≤ 64 → (IntKind.u64.wrap ((IntKind.u64.wrap (Go.bits .andNot .u8 (rd l0 x9_1) 128)) * 2 ^ (ji8).toNat)) = ji10 := shl_small hji10
                    by_cases c11 : (rd l0 x9_1) ≥ 128
                    · rw [if_pos c11] at H
                      have c11b0 : decide (128 ≤ (rd l0 x9_1)) = true := decide_eq_true c11
                      clear c11
                      have H' := Aside0.mk H
                      clear H
                      go_wp2
                      go_roundg kj4
                      case measure => have := HK1.out; have := HJ4.out; omega
                      case rel => exact ⟨(Go.bits .or .u64 x2_1 (ji10)), (wrap64 (x9_1 + 1)), (by first | rfl | (simp; done) | (simp only [← hji10] <;> (first | rfl | simp)) | (simp [*]; done)), (by first | rfl | (simp; done) | (simp [*]; done)), H', ⟨by have := HK1.out; have := HJ4.out; omega⟩, by repeat (first | exact Drawn0.refl _ | apply Drawn0.step)⟩
                    · rw [if_neg c11] at H
                      have c11b0 : decide (128 ≤ (rd l0 x9_1)) = false := decide_eq_false c11
                      clear c11
                      by_cases c12 : (rd l0 x9_1) = 0
                      · rw [if_pos c12] at H
                        have c12b0 : ((rd l0 x9_1) == 0) = true := beq_iff_eq.mpr c12
                        have c12b1 : ((rd l0 x9_1) != 0) = false := bne_eq_false_iff_eq.mpr c12
                        clear c12
                        by_cases c13 : x9_1 > 0
                        · rw [if_pos c13] at H
                          have c13b0 : decide (0 < x9_1) = true := decide_eq_true c13
                          clear c13
                          simp only [Option.some.injEq, Prod.mk.injEq] at H
                          obtain ⟨rfl, rfl, rfl⟩ := H
                          go_wp2
                          go_ret3
                          exact ⟨by first | rfl | (simp; done) | (simp only [← hji8, ← hji10] <;> (first | rfl | simp)) | (simp [*]; done), by repeat (first | exact Drawn0.refl _ | apply Drawn0.step)⟩
                        · rw [if_neg c13] at H
                          have c13b0 : decide (0 < x9_1) = false := decide_eq_false c13
                          clear c13
                          simp only [Option.some.injEq, Prod.mk.injEq] at H
                          obtain ⟨rfl, rfl, rfl⟩ := H
                          go_wp2
                          go_ret3
                          exact ⟨by first | rfl | (simp; done) | (simp only [← hji8, ← hji10] <;> (first | rfl | simp)) | (simp [*]; done), by repeat (first | exact Drawn0.refl _ | apply Drawn0.step)⟩
                      · rw [if_neg c12] at H
                        have c12b0 : ((rd l0 x9_1) == 0) = false := beq_eq_false_iff_ne.mpr c12
                        have c12b1 : ((rd l0 x9_1) != 0) = true := bne_iff_ne.mpr c12
                        simp only [Option.some.injEq, Prod.mk.injEq] at H
                        obtain ⟨rfl, rfl, rfl⟩ := H
                        go_wp2
                        go_ret3
                        exact ⟨by first | rfl | (simp; done) | (simp only [← hji8, ← hji10] <;> (first | rfl | simp)) | (simp [*]; done), by repeat (first | exact Drawn0.refl _ | apply Drawn0.step)⟩
                  · rw [if_neg c9] at H
                    exact absurd H (by simp)
          · rw [if_neg c4] at H
            exact absurd H (by simp)
        · rw [if_neg c3] at H
          exact absurd H (by simp)
      · rw [if_neg c2] at H
        have c2b0 : decide (x9_1 < (l0.length : Int)) = false := decide_eq_false c2
        clear c2
        simp only [Option.some.injEq, Prod.mk.injEq] at H
        obtain ⟨rfl, rfl, rfl⟩ := H
        go_wp2
        go_ret3
        exact ⟨by first | rfl | (simp; done) | (simp [*]; done), by repeat (first | exact Drawn0.refl _ | apply Drawn0.step)⟩

/-! ### bits_TakeText: function 32 -/
def bits_TakeText.f (k : Nat) (l0 : List Int) : Option (List Int × Int × Int) := (bits_TakeVar.f k l0).bind fun bt173 => (if bt173.2.2 = 0 then (if bt173.1 > 1048576 then (some (([] : List Int), 0, 3)) else (if bt173.1 > (IntKind.u64.wrap (wrap64 ((l0.length : Int) - bt173.2.1))) then (some (([] : List Int), 0, 2)) else (if 0 ≤ bt173.2.1 then (if bt173.2.1 ≤ (wrap64 (bt173.2.1 + (wrap64 (bt173.1)))) then (if (wrap64 (bt173.2.1 + (wrap64 (bt173.1)))) ≤ (l0.length : Int) then ((bits_room.f ((l0.take ((wrap64 (bt173.2.1 + (wrap64 (bt173.1)))) : Int).toNat).drop (bt173.2.1 : Int).toNat) 0).bind fun t180 => (some (t180, wrap64 (bt173.2.1 + (wrap64 (bt173.1))), 0))) else (none)) else (none)) else (none)))) else (some (([] : List Int), 0, bt173.2.2)))
theorem bits_TakeText.mono : ∀ a0 k, LeO (bits_TakeText.f k a0) (bits_TakeText.f (k + 1) a0) := by
  intro a0 k
  unfold bits_TakeText.f
  repeat' first
      | (with_reducible exact bits_TakeVar.mono _ _)
      | (with_reducible exact LeO.refl _)
      | (with_reducible exact LeO.none _)
      | (with_reducible refine LeO.ite ?_ ?_)
      | (with_reducible refine LeO.bind ?_ (fun _ => ?_))
      | exact bits_TakeVar.mono _ _
      | exact LeO.none _
      | refine LeO.ite ?_ ?_
      | refine LeO.bind ?_ (fun _ => ?_)
set_option maxHeartbeats 8000000 in
set_option maxRecDepth 100000 in
theorem bits_TakeText.calls (k : Nat) (A0 : Option Addr) (c0 : Nat) (l0 : List Int) (r1 : List Int) (r2 : Int) (r3 : Int) (w : World) (hr0 : Kd.C (Kd.int .u8) w A0 l0.length l0) (hc0 : l0.length ≤ c0) (h : bits_TakeText.f k l0 = some (r1, r2, r3)) :
    Calls Try.prog 32 #[.slice A0 l0.length c0] w fun e w' => ∃ v0_ : Value, e = .returned (.tuple #[v0_, .int .i64 r2, .int .i64 r3]) ∧ Kd.R (Kd.int .u8) 5 w' w.heap.size (fun _ => True) v0_ r1 ∧ Below w.heap.size w w' := by
  have HR0 := Aside0.mk hr0
  have HC0 := Aside0.mk hc0
  clear hr0 hc0
  have HB := Aside0.mk (Below.refl w.heap.size w)
  have H : ((bits_TakeVar.f k l0).bind fun bt173 => (if bt173.2.2 = 0 then (if bt173.1 > 1048576 then (some (([] : List Int), 0, 3)) else (if bt173.1 > (IntKind.u64.wrap (wrap64 ((l0.length : Int) - bt173.2.1))) then (some (([] : List Int), 0, 2)) else (if 0 ≤ bt173.2.1 then (if bt173.2.1 ≤ (wrap64 (bt173.2.1 + (wrap64 (bt173.1)))) then (if (wrap64 (bt173.2.1 + (wrap64 (bt173.1)))) ≤ (l0.length : Int) then ((bits_room.f ((l0.take ((wrap64 (bt173.2.1 + (wrap64 (bt173.1)))) : Int).toNat).drop (bt173.2.1 : Int).toNat) 0).bind fun t180 => (some (t180, wrap64 (bt173.2.1 + (wrap64 (bt173.1))), 0))) else (none)) else (none)) else (none)))) else (some (([] : List Int), 0, bt173.2.2)))) = some (r1, r2, r3) := h
  clear h
  replace H := Option.bind_eq_some_iff.mp H
  obtain ⟨⟨t173, t174, t175⟩, A20, H⟩ := H
  replace H : (if t175 = 0 then (if t173 > 1048576 then (some (([] : List Int), 0, 3)) else (if t173 > (IntKind.u64.wrap (wrap64 ((l0.length : Int) - t174))) then (some (([] : List Int), 0, 2)) else (if 0 ≤ t174 then (if t174 ≤ (wrap64 (t174 + (wrap64 (t173)))) then (if (wrap64 (t174 + (wrap64 (t173)))) ≤ (l0.length : Int) then ((bits_room.f ((l0.take ((wrap64 (t174 + (wrap64 (t173)))) : Int).toNat).drop (t174 : Int).toNat) 0).bind fun t180 => (some (t180, wrap64 (t174 + (wrap64 (t173))), 0))) else (none)) else (none)) else (none)))) else (some (([] : List Int), 0, t175))) = some (r1, r2, r3) := H
  have A2 := Aside0.mk A20
  clear A20
  by_cases c3 : t175 = 0
  · rw [if_pos c3] at H
    have c3b0 : (t175 == 0) = true := beq_iff_eq.mpr c3
    have c3b1 : (t175 != 0) = false := bne_eq_false_iff_eq.mpr c3
    clear c3
    by_cases c4 : t173 > 1048576
    · rw [if_pos c4] at H
      have c4b0 : decide (1048576 < t173) = true := decide_eq_true c4
      clear c4
      simp only [Option.some.injEq, Prod.mk.injEq] at H
      obtain ⟨rfl, rfl, rfl⟩ := H
      go_enter Try.func32, Try.ntmps32
      go_wp2_with (first | ((with_reducible refine gate_callee (f := 30) rfl ?_); refine goesL_ (some 9) rfl rfl Try.func30 (by kernel_rfl) rfl #[.slice A0 l0.length c0] rfl (by (try simp only [List.map_toArray, List.map_cons, List.map_nil]); first | done | rfl | (simp only [List.length_drop, List.length_take]; rfl)) ?_; (with_reducible refine (bits_TakeVar.calls k _ _ l0 t173 t174 t175 _ ?side1 ?side2 A2.out).mono ?_); (case side1 => repeat (first | exact HR0.out | (with_reducible refine Kd.C_alloc ?_ _) | (with_reducible refine Kd.C_drewN ?_ _) | (with_reducible refine Kd.C_drew ?_))); (case side2 => exact HC0.out); rintro e w' ⟨rfl, ⟨nd, rfl⟩⟩; refine ⟨_, rfl, ?_⟩))
      go_ret3
      exact ⟨_, by first | rfl | (simp [errW_none, errW_some] <;> rfl) | (simp [*, errW_none, errW_some] <;> rfl), by first | exact Kd.R_nil _ _ _ _ _ | exact Kd.N_nil _ _ _ _ _ | exact Kd.V_nil _ _ _ _ _ | exact Kd.Q_nil _ _ _ _ _ | exact Kd.S_nil _ _ _ _ _, by repeat (first | (with_reducible first | exact HB.out | apply below_alloc | apply pw_below_drewN | apply below_drew1) | exact HB.out)⟩
    · rw [if_neg c4] at H
      have c4b0 : decide (1048576 < t173) = false := decide_eq_false c4
      clear c4
      by_cases c5 : t173 > (IntKind.u64.wrap (wrap64 ((l0.length : Int) - t174)))
      · rw [if_pos c5] at H
        have c5b0 : decide ((IntKind.u64.wrap (wrap64 ((l0.length : Int) - t174))) < t173) = true := decide_eq_true c5
        clear c5
        simp only [Option.some.injEq, Prod.mk.injEq] at H
        obtain ⟨rfl, rfl, rfl⟩ := H
        go_enter Try.func32, Try.ntmps32
        go_wp2_with (first | ((with_reducible refine gate_callee (f := 30) rfl ?_); refine goesL_ (some 9) rfl rfl Try.func30 (by kernel_rfl) rfl #[.slice A0 l0.length c0] rfl (by (try simp only [List.map_toArray, List.map_cons, List.map_nil]); first | done | rfl | (simp only [List.length_drop, List.length_take]; rfl)) ?_; (with_reducible refine (bits_TakeVar.calls k _ _ l0 t173 t174 t175 _ ?side1 ?side2 A2.out).mono ?_); (case side1 => repeat (first | exact HR0.out | (with_reducible refine Kd.C_alloc ?_ _) | (with_reducible refine Kd.C_drewN ?_ _) | (with_reducible refine Kd.C_drew ?_))); (case side2 => exact HC0.out); rintro e w' ⟨rfl, ⟨nd, rfl⟩⟩; refine ⟨_, rfl, ?_⟩))
        go_ret3
        exact ⟨_, by first | rfl | (simp [errW_none, errW_some] <;> rfl) | (simp [*, errW_none, errW_some] <;> rfl), by first | exact Kd.R_nil _ _ _ _ _ | exact Kd.N_nil _ _ _ _ _ | exact Kd.V_nil _ _ _ _ _ | exact Kd.Q_nil _ _ _ _ _ | exact Kd.S_nil _ _ _ _ _, by repeat (first | (with_reducible first | exact HB.out | apply below_alloc | apply pw_below_drewN | apply below_drew1) | exact HB.out)⟩
      · rw [if_neg c5] at H
        have c5b0 : decide ((IntKind.u64.wrap (wrap64 ((l0.length : Int) - t174))) < t173) = false := decide_eq_false c5
        clear c5
        by_cases c6 : 0 ≤ t174
        · rw [if_pos c6] at H
          have c6b0 := eq_true c6
          have c6b1 : decide (0 ≤ t174) = true := decide_eq_true c6
          clear c6
          by_cases c7 : t174 ≤ (wrap64 (t174 + (wrap64 (t173))))
          · rw [if_pos c7] at H
            have c7b0 := eq_true c7
            have c7b1 : decide (t174 ≤ (wrap64 (t174 + (wrap64 (t173))))) = true := decide_eq_true c7
            by_cases c8 : (wrap64 (t174 + (wrap64 (t173)))) ≤ (l0.length : Int)
            · rw [if_pos c8] at H
              have c8b0 := eq_true c8
              have c8b1 : decide ((wrap64 (t174 + (wrap64 (t173)))) ≤ (l0.length : Int)) = true := decide_eq_true c8
              obtain ⟨y176, hy176⟩ : ∃ y_ : List Int, y_ = ((l0.take ((wrap64 (t174 + (wrap64 (t173)))) : Int).toNat).drop (t174 : Int).toNat) := ⟨_, rfl⟩
              replace H : ((bits_room.f y176 0).bind fun t180 => (some (t180, wrap64 (t174 + (wrap64 (t173))), 0))) = some (r1, r2, r3) := by first | (rw [hy176]; with_reducible exact H) | (have H2_ := (Option.bind_some _ _).symm.trans H; rw [hy176]; with_reducible exact H2_) | (have H2_ := (Option.bind_some _ _).symm.trans H; with_reducible exact H2_) | with_reducible exact H | (rw [hy176]; exact H) | exact H
              have Ny176 := Aside0.mk hy176
              clear hy176
              replace H := Option.bind_eq_some_iff.mp H
              obtain ⟨t180, A90, H⟩ := H
              replace H : (some (t180, wrap64 (t174 + (wrap64 (t173))), 0)) = some (r1, r2, r3) := H
              have A9 := Aside0.mk A90
              clear A90
              simp only [Option.some.injEq, Prod.mk.injEq] at H
              obtain ⟨rfl, rfl, rfl⟩ := H
              go_enter Try.func32, Try.ntmps32
              go_wp2_with (first | ((with_reducible refine gate_callee (f := 30) rfl ?_); refine goesL_ (some 9) rfl rfl Try.func30 (by kernel_rfl) rfl #[.slice A0 l0.length c0] rfl (by (try simp only [List.map_toArray, List.map_cons, List.map_nil]); first | done | rfl | (simp only [List.length_drop, List.length_take]; rfl)) ?_; (with_reducible refine (bits_TakeVar.calls k _ _ l0 t173 t174 t175 _ ?side1 ?side2 A2.out).mono ?_); (case side1 => repeat (first | exact HR0.out | (with_reducible refine Kd.C_alloc ?_ _) | (with_reducible refine Kd.C_drewN ?_ _) | (with_reducible refine Kd.C_drew ?_))); (case side2 => exact HC0.out); rintro e w' ⟨rfl, ⟨nd, rfl⟩⟩; refine ⟨_, rfl, ?_⟩; have q10 : ((wrap64 (t174 + (wrap64 (t173)))) : Int) ≤ ((l0.length : Int) : Int) := of_decide_eq_true (by first | (with_reducible assumption) | assumption); obtain ⟨i010, hi010, _, hsz10, _⟩ := info_parts info5; have hroom10 : l0.length ≤ c0 := HC0.out; have hC10 : Kd.C (Kd.int .u8) _ A0 l0.length l0 := HR0.out; have ql10 : (t174 : Int) ≤ ((wrap64 (t174 + (wrap64 (t173)))) : Int) := of_decide_eq_true (by first | (with_reducible assumption) | assumption); have q010 : (0 : Int) ≤ (t174 : Int) := of_decide_eq_true (by first | (with_reducible assumption) | assumption); have hcut10 := cut_mid (P := Try.prog) 27 5 .i64 .i64 Try.underlying27 hi010 1 hsz10 A0 l0.length c0 t174 (wrap64 (t174 + (wrap64 (t173)))) q010 ql10 q10 hroom10; have hr10 := Kd.C_mid (lo := (t174 : Int).toNat) (hi := ((wrap64 (t174 + (wrap64 (t173)))) : Int).toNat) (c := c0) hC10 (by omega) (by omega) hroom10; obtain ⟨A10, hA10⟩ : ∃ A1, A1 = (if c0 = (t174 : Int).toNat then A0 else (A0 : Option Addr).map (·.add ((t174 : Int).toNat * 1))) := ⟨_, rfl⟩; obtain ⟨c10, hc10⟩ : ∃ c1, c1 = c0 - (t174 : Int).toNat := ⟨_, rfl⟩; have hy10 : y176.length = ((wrap64 (t174 + (wrap64 (t173)))) : Int).toNat - (t174 : Int).toNat := (by rw [Ny176.out, List.length_drop, List.length_take] <;> omega); rw [show ((l0).take ((wrap64 (t174 + (wrap64 (t173)))) : Int).toNat).drop (t174 : Int).toNat = y176 from Ny176.out.symm] at hr10; replace hr10 : Kd.C (Kd.int .u8) _ A10 y176.length y176 := (by rw [hA10]; exact hr10); rw [← hy10, ← hA10, ← hc10] at hcut10; have HR179 := Aside0.mk hr10; have HC179 := Aside0.mk (show y176.length ≤ c10 from by rw [hy10, hc10]; exact Nat.sub_le_sub_right (Nat.le_trans (by omega) hroom10) _); clear hr10 hC10 hroom10 hi010 hsz10 hc10; have KY10 := Aside0.mk hy10; have KA10 := Aside0.mk hA10; clear hy10 hA10; replace q10 := eq_true q10) | ((with_reducible refine gate_callee (f := 38) rfl ?_); refine goesL_ (some 36) rfl rfl Try.func38 (by kernel_rfl) rfl #[.slice A10 y176.length c10, .int .i64 0] rfl (by (try simp only [List.map_toArray, List.map_cons, List.map_nil]); first | done | rfl | (simp only [List.length_drop, List.length_take]; rfl)) ?_; (with_reducible refine (bits_room.calls _ _ y176 0 t180 _ ?side1 ?side2 A9.out).mono ?_); (case side1 => repeat (first | exact HR179.out | (with_reducible refine Kd.C_alloc ?_ _) | (with_reducible refine Kd.C_drewN ?_ _) | (with_reducible refine Kd.C_drew ?_))); (case side2 => exact HC179.out); rintro e w11 ⟨v181, rfl, ho0, hb⟩; refine ⟨_, rfl, ?_⟩; have n0_ := Aside0.mk (Kd.R_lower ho0 (below_size (by repeat (first | (with_reducible first | exact HB.out | apply below_alloc | apply pw_below_drewN | apply below_drew1) | exact HB.out)))); have n1_ := Aside0.mk (below_step (by repeat (first | (with_reducible first | exact HB.out | apply below_alloc | apply pw_below_drewN | apply below_drew1) | exact HB.out)) hb); clear HB; have HO182 := n0_; have HB := n1_; clear n0_ n1_; (try clear hb); (try clear hb2); (try clear hk); (try clear hi); (try clear ho0)))
              go_ret3
              exact ⟨_, by first | rfl | (simp [errW_none, errW_some] <;> rfl) | (simp [*, errW_none, errW_some] <;> rfl), by (with_reducible repeat (first | apply Kd.R_alloc | apply Kd.R_drewN | apply Kd.R_drew)); exact HO182.out, by repeat (first | (with_reducible first | exact HB.out | apply below_alloc | apply pw_below_drewN | apply below_drew1) | exact HB.out)⟩
            · rw [if_neg c8] at H
              exact absurd H (by simp)
          · rw [if_neg c7] at H
            exact absurd H (by simp)
        · rw [if_neg c6] at H
          exact absurd H (by simp)
  · rw [if_neg c3] at H
    have c3b0 : (t175 == 0) = false := beq_eq_false_iff_ne.mpr c3
    have c3b1 : (t175 != 0) = true := bne_iff_ne.mpr c3
    simp only [Option.some.injEq, Prod.mk.injEq] at H
    obtain ⟨rfl, rfl, rfl⟩ := H
    go_enter Try.func32, Try.ntmps32
    go_wp2_with (first | ((with_reducible refine gate_callee (f := 30) rfl ?_); refine goesL_ (some 9) rfl rfl Try.func30 (by kernel_rfl) rfl #[.slice A0 l0.length c0] rfl (by (try simp only [List.map_toArray, List.map_cons, List.map_nil]); first | done | rfl | (simp only [List.length_drop, List.length_take]; rfl)) ?_; (with_reducible refine (bits_TakeVar.calls k _ _ l0 t173 t174 t175 _ ?side1 ?side2 A2.out).mono ?_); (case side1 => repeat (first | exact HR0.out | (with_reducible refine Kd.C_alloc ?_ _) | (with_reducible refine Kd.C_drewN ?_ _) | (with_reducible refine Kd.C_drew ?_))); (case side2 => exact HC0.out); rintro e w' ⟨rfl, ⟨nd, rfl⟩⟩; refine ⟨_, rfl, ?_⟩))
    go_ret3
    exact ⟨_, by first | rfl | (simp [errW_none, errW_some] <;> rfl) | (simp [*, errW_none, errW_some] <;> rfl), by first | exact Kd.R_nil _ _ _ _ _ | exact Kd.N_nil _ _ _ _ _ | exact Kd.V_nil _ _ _ _ _ | exact Kd.Q_nil _ _ _ _ _ | exact Kd.S_nil _ _ _ _ _, by repeat (first | (with_reducible first | exact HB.out | apply below_alloc | apply pw_below_drewN | apply below_drew1) | exact HB.out)⟩

/-! ### antipodelaw1_BitsBack: function 9 -/
def antipodelaw1_BitsBack.j0 : Nat → List Int → List Int → Int → Int → Bool → Option (Bool)
  | 0, _, _, _, _, _ => none
  | k + 1, x0, x1, x2, x3, x28 => if x28 = true then (some true) else ((bits_Var.f k ([] : List Int) x2).bind fun t184 => (if t184.length + x1.length < 140737488355328 then ((bits_TakeVar.f k (t184 ++ x1)).bind fun bt190 => ((bits_Text.f k ([] : List Int) x0).bind fun t193 => (if t193.length + x1.length < 140737488355328 then ((bits_TakeText.f k (t193 ++ x1)).bind fun bt199 => (if bt190.2.2 = 0 then (if bt199.2.2 = 0 then (if bt190.1 = x2 then (if bt190.2.1 = (t184.length : Int) then (if (strOfNums bt199.1).toList = (strOfNums x0).toList then (if bt199.2.1 = (t193.length : Int) then ((bits_Zig.f x3).bind fun t204 => ((bits_Zag.f t204).bind fun t205 => (if t205 = x3 then ((bits_Zag.f x2).bind fun t206 => ((bits_Zig.f t206).bind fun t207 => (if t207 = x2 then ((bits_Order.f x3).bind fun t208 => ((bits_Back.f t208).bind fun t209 => (if t209 = x3 then ((bits_Back.f x2).bind fun t210 => ((bits_Order.f t210).bind fun t211 => (some (t211 == x2)))) else (some false)))) else (some false)))) else (some false)))) else (some false)) else (some false)) else (some false)) else (some false)) else (some false)) else (some false))) else (none)))) else (none)))
def antipodelaw1_BitsBack.f (k : Nat) (l0 : List Int) (l1 : List Int) (a2 : Int) (a3 : Int) : Option (Bool) := (antipodelaw1_begun.f k).bind fun t183 => (if t183 = true then (if (l0.length : Int) > 16384 then (antipodelaw1_BitsBack.j0 k l0 l1 a2 a3 true) else (antipodelaw1_BitsBack.j0 k l0 l1 a2 a3 (decide ((l1.length : Int) > 16384)))) else (some false))
theorem antipodelaw1_BitsBack.mono_l : ∀ k, (∀ y0 y1 y2 y3 y4, LeO (antipodelaw1_BitsBack.j0 k y0 y1 y2 y3 y4) (antipodelaw1_BitsBack.j0 (k + 1) y0 y1 y2 y3 y4))
  | 0 => fun _ _ _ _ _ r h => by simp [antipodelaw1_BitsBack.j0] at h
  | k + 1 => by
    have ih0 := antipodelaw1_BitsBack.mono_l k
    · intro y0 y1 y2 y3 y4
      unfold antipodelaw1_BitsBack.j0
      repeat' first
      | (with_reducible exact ih0 _ _ _ _ _)
      | (with_reducible exact antipodelaw1_begun.mono _)
      | (with_reducible exact bits_TakeText.mono _ _)
      | (with_reducible exact bits_TakeVar.mono _ _)
      | (with_reducible exact bits_Text.mono _ _ _)
      | (with_reducible exact bits_Var.mono _ _ _)
      | (with_reducible exact LeO.refl _)
      | (with_reducible exact LeO.none _)
      | (with_reducible refine LeO.ite ?_ ?_)
      | (with_reducible refine LeO.bind ?_ (fun _ => ?_))
      | exact ih0 _ _ _ _ _
      | exact antipodelaw1_begun.mono _
      | exact bits_TakeText.mono _ _
      | exact bits_TakeVar.mono _ _
      | exact bits_Text.mono _ _ _
      | exact bits_Var.mono _ _ _
      | exact LeO.none _
      | refine LeO.ite ?_ ?_
      | refine LeO.bind ?_ (fun _ => ?_)
theorem antipodelaw1_BitsBack.mono : ∀ a0 a1 a2 a3 k, LeO (antipodelaw1_BitsBack.f k a0 a1 a2 a3) (antipodelaw1_BitsBack.f (k + 1) a0 a1 a2 a3) := by
  intro a0 a1 a2 a3 k
  have ih0 := antipodelaw1_BitsBack.mono_l k
  unfold antipodelaw1_BitsBack.f
  repeat' first
      | (with_reducible exact ih0 _ _ _ _ _)
      | (with_reducible exact antipodelaw1_begun.mono _)
      | (with_reducible exact bits_TakeText.mono _ _)
      | (with_reducible exact bits_TakeVar.mono _ _)
      | (with_reducible exact bits_Text.mono _ _ _)
      | (with_reducible exact bits_Var.mono _ _ _)
      | (with_reducible exact LeO.refl _)
      | (with_reducible exact LeO.none _)
      | (with_reducible refine LeO.ite ?_ ?_)
      | (with_reducible refine LeO.bind ?_ (fun _ => ?_))
      | exact ih0 _ _ _ _ _
      | exact antipodelaw1_begun.mono _
      | exact bits_TakeText.mono _ _
      | exact bits_TakeVar.mono _ _
      | exact bits_Text.mono _ _ _
      | exact bits_Var.mono _ _ _
      | exact LeO.none _
      | refine LeO.ite ?_ ?_
      | refine LeO.bind ?_ (fun _ => ?_)
set_option maxHeartbeats 8000000 in
set_option maxRecDepth 100000 in
theorem antipodelaw1_BitsBack.calls (k : Nat) (A0 : Option Addr) (c0 : Nat) (l0 : List Int) (A1 : Option Addr) (c1 : Nat) (l1 : List Int) (a2 : Int) (a3 : Int) (r : Bool) (w : World) (hr0 : Kd.C (Kd.int .u8) w A0 l0.length l0) (hc0 : l0.length ≤ c0) (hr1 : Kd.C (Kd.int .u8) w A1 l1.length l1) (hc1 : l1.length ≤ c1) (hr_ : Aside0 (r = true)) (h : antipodelaw1_BitsBack.f k l0 l1 a2 a3 = some r) :
    Calls Try.prog 9 #[.slice A0 l0.length c0, .slice A1 l1.length c1, .int .u64 a2, .int .i64 a3] w fun e w' => e = .returned (.bool r) ∧ Below w.heap.size w w' := by
  have HR0 := Aside0.mk hr0
  have HC0 := Aside0.mk hc0
  clear hr0 hc0
  have HR1 := Aside0.mk hr1
  have HC1 := Aside0.mk hc1
  clear hr1 hc1
  have HB := Aside0.mk (Below.refl w.heap.size w)
  have H : ((antipodelaw1_begun.f k).bind fun t183 => (if t183 = true then (if (l0.length : Int) > 16384 then (antipodelaw1_BitsBack.j0 k l0 l1 a2 a3 true) else (antipodelaw1_BitsBack.j0 k l0 l1 a2 a3 (decide ((l1.length : Int) > 16384)))) else (some false))) = some r := h
  clear h
  replace H := Option.bind_eq_some_iff.mp H
  obtain ⟨t183, A50, H⟩ := H
  replace H : (if t183 = true then (if (l0.length : Int) > 16384 then (antipodelaw1_BitsBack.j0 k l0 l1 a2 a3 true) else (antipodelaw1_BitsBack.j0 k l0 l1 a2 a3 (decide ((l1.length : Int) > 16384)))) else (some false)) = some r := H
  have A5 := Aside0.mk A50
  clear A50
  by_cases c6 : t183 = true
  · subst c6
    have H1 : (if (l0.length : Int) > 16384 then (antipodelaw1_BitsBack.j0 k l0 l1 a2 a3 true) else (antipodelaw1_BitsBack.j0 k l0 l1 a2 a3 (decide ((l1.length : Int) > 16384)))) = some r := by rw [if_pos rfl] at H; exact H
    clear H
    have H := H1
    clear H1
    have HC7 := Aside0.mk H
    clear H
    go_enter Try.func9, Try.ntmps9
    go_upto_region 3 with (first | ((with_reducible refine gate_callee (f := 10) rfl ?_); refine goesL_ (some 19) rfl rfl Try.func10 (by kernel_rfl) rfl #[] rfl (by (try simp only [List.map_toArray, List.map_cons, List.map_nil]); first | done | rfl | (simp only [List.length_drop, List.length_take]; rfl)) ?_; (with_reducible refine (antipodelaw1_begun.calls k  true _ A5.out).mono ?_); rintro e w8 ⟨rfl, hb⟩; refine ⟨_, rfl, ?_⟩; have n0_ := Aside0.mk (below_step (by repeat (first | (with_reducible first | exact HB.out | apply below_alloc | apply pw_below_drewN | apply below_drew1) | exact HB.out)) hb); clear HB; have HB := n0_; clear n0_; (try clear hb); (try clear hb2); (try clear hk); (try clear hi)))
    (try simp only [Act.put, List.setIfInBounds_toArray, List.set_cons_zero, List.set_cons_succ])
    go_cut [28] (fun v28 wc => ∃ (kq : Nat) (x28_6 : Bool), v28 = .bool x28_6 ∧ Aside0 (antipodelaw1_BitsBack.j0 kq l0 l1 a2 a3 x28_6 = some r) ∧ Aside0 (kq ≤ k) ∧ Aside0 (Below w.heap.size w wc))
    case first =>
      have H := HC7.out
      clear HC7
      by_cases c9 : (l0.length : Int) > 16384
      · rw [if_pos c9] at H
        have c9b0 : decide (16384 < (l0.length : Int)) = true := decide_eq_true c9
        have c9b1 : decide (16384 < l0.length) = true := decide_eq_true (by omega)
        clear c9
        (first | rw [c9b0] | (simp only [i64_w, i32_w]; rw [c9b0]) | skip)
        have H' := Aside0.mk H
        clear H
        go_wp2
        go_meet
        case rel => exact ⟨_, (true), (by first | rfl | (simp; done) | (simp [*]; done)), H', ⟨by first | omega | exact Nat.le_refl _⟩, ⟨by repeat (first | (with_reducible first | exact HB.out | apply below_alloc | apply pw_below_drewN | apply below_drew1) | exact HB.out)⟩⟩
      · rw [if_neg c9] at H
        have c9b0 : decide (16384 < (l0.length : Int)) = false := decide_eq_false c9
        have c9b1 : decide (16384 < l0.length) = false := decide_eq_false (by omega)
        clear c9
        (first | rw [c9b0] | (simp only [i64_w, i32_w]; rw [c9b0]) | skip)
        have H' := Aside0.mk H
        clear H
        go_wp2
        go_meet
        case rel => exact ⟨_, (decide ((l1.length : Int) > 16384)), (by first | rfl | (simp; done) | (simp [*]; done)), H', ⟨by first | omega | exact Nat.le_refl _⟩, ⟨by repeat (first | (with_reducible first | exact HB.out | apply below_alloc | apply pw_below_drewN | apply below_drew1) | exact HB.out)⟩⟩
    case rest =>
      clear HC7
      try clear c1
      try clear p2
      try clear c6
      try clear c9
      try clear c9b0
      try clear c9b1
      obtain ⟨kq, x28_6, rfl, HA, HJ6, HB⟩ := hcut
      cases kq with
      | zero => exact absurd HA.out (by simp [antipodelaw1_BitsBack.j0])
      | succ kj6 =>
        have H := HA.out
        clear HA
        simp only [antipodelaw1_BitsBack.j0] at H
        by_cases c10 : x28_6 = true
        · subst c10
          have H1 : (some true) = some r := by rw [if_pos rfl] at H; exact H
          clear H
          have H := H1
          clear H1
          obtain rfl := Option.some.inj H
          go_wp2
          go_ret
          exact ⟨by first | rfl | (simp [errW_none, errW_some] <;> rfl) | (simp [*, errW_none, errW_some] <;> rfl), by repeat (first | (with_reducible first | exact HB.out | apply below_alloc | apply pw_below_drewN | apply below_drew1) | exact HB.out)⟩
        · replace c10 := Bool.eq_false_iff.mpr c10
          subst c10
          have H1 : ((bits_Var.f kj6 ([] : List Int) a2).bind fun t184 => (if t184.length + l1.length < 140737488355328 then ((bits_TakeVar.f kj6 (t184 ++ l1)).bind fun bt190 => ((bits_Text.f kj6 ([] : List Int) l0).bind fun t193 => (if t193.length + l1.length < 140737488355328 then ((bits_TakeText.f kj6 (t193 ++ l1)).bind fun bt199 => (if bt190.2.2 = 0 then (if bt199.2.2 = 0 then (if bt190.1 = a2 then (if bt190.2.1 = (t184.length : Int) then (if (strOfNums bt199.1).toList = (strOfNums l0).toList then (if bt199.2.1 = (t193.length : Int) then ((bits_Zig.f a3).bind fun t204 => ((bits_Zag.f t204).bind fun t205 => (if t205 = a3 then ((bits_Zag.f a2).bind fun t206 => ((bits_Zig.f t206).bind fun t207 => (if t207 = a2 then ((bits_Order.f a3).bind fun t208 => ((bits_Back.f t208).bind fun t209 => (if t209 = a3 then ((bits_Back.f a2).bind fun t210 => ((bits_Order.f t210).bind fun t211 => (some (t211 == a2)))) else (some false)))) else (some false)))) else (some false)))) else (some false)) else (some false)) else (some false)) else (some false)) else (some false)) else (some false))) else (none)))) else (none))) = some r := by rw [if_neg (show ¬ (false = true) by decide)] at H; exact H
          clear H
          have H := H1
          clear H1
          replace H := Option.bind_eq_some_iff.mp H
          obtain ⟨t184, A110, H⟩ := H
          replace H : (if t184.length + l1.length < 140737488355328 then ((bits_TakeVar.f kj6 (t184 ++ l1)).bind fun bt190 => ((bits_Text.f kj6 ([] : List Int) l0).bind fun t193 => (if t193.length + l1.length < 140737488355328 then ((bits_TakeText.f kj6 (t193 ++ l1)).bind fun bt199 => (if bt190.2.2 = 0 then (if bt199.2.2 = 0 then (if bt190.1 = a2 then (if bt190.2.1 = (t184.length : Int) then (if (strOfNums bt199.1).toList = (strOfNums l0).toList then (if bt199.2.1 = (t193.length : Int) then ((bits_Zig.f a3).bind fun t204 => ((bits_Zag.f t204).bind fun t205 => (if t205 = a3 then ((bits_Zag.f a2).bind fun t206 => ((bits_Zig.f t206).bind fun t207 => (if t207 = a2 then ((bits_Order.f a3).bind fun t208 => ((bits_Back.f t208).bind fun t209 => (if t209 = a3 then ((bits_Back.f a2).bind fun t210 => ((bits_Order.f t210).bind fun t211 => (some (t211 == a2)))) else (some false)))) else (some false)))) else (some false)))) else (some false)) else (some false)) else (some false)) else (some false)) else (some false)) else (some false))) else (none)))) else (none)) = some r := H
          have A11 := Aside0.mk A110
          clear A110
          by_cases c12 : t184.length + l1.length < 140737488355328
          · rw [if_pos c12] at H
            have LMc12 := Aside0.mk c12
            clear c12
            obtain ⟨y187, hy187⟩ : ∃ y_ : List Int, y_ = (t184 ++ l1) := ⟨_, rfl⟩
            replace H : ((bits_TakeVar.f kj6 y187).bind fun bt190 => ((bits_Text.f kj6 ([] : List Int) l0).bind fun t193 => (if t193.length + l1.length < 140737488355328 then ((bits_TakeText.f kj6 (t193 ++ l1)).bind fun bt199 => (if bt190.2.2 = 0 then (if bt199.2.2 = 0 then (if bt190.1 = a2 then (if bt190.2.1 = (t184.length : Int) then (if (strOfNums bt199.1).toList = (strOfNums l0).toList then (if bt199.2.1 = (t193.length : Int) then ((bits_Zig.f a3).bind fun t204 => ((bits_Zag.f t204).bind fun t205 => (if t205 = a3 then ((bits_Zag.f a2).bind fun t206 => ((bits_Zig.f t206).bind fun t207 => (if t207 = a2 then ((bits_Order.f a3).bind fun t208 => ((bits_Back.f t208).bind fun t209 => (if t209 = a3 then ((bits_Back.f a2).bind fun t210 => ((bits_Order.f t210).bind fun t211 => (some (t211 == a2)))) else (some false)))) else (some false)))) else (some false)))) else (some false)) else (some false)) else (some false)) else (some false)) else (some false)) else (some false))) else (none)))) = some r := by first | (rw [hy187]; with_reducible exact H) | (have H2_ := (Option.bind_some _ _).symm.trans H; rw [hy187]; with_reducible exact H2_) | (have H2_ := (Option.bind_some _ _).symm.trans H; with_reducible exact H2_) | with_reducible exact H | (rw [hy187]; exact H) | exact H
            have Ny187 := Aside0.mk hy187
            clear hy187
            replace H := Option.bind_eq_some_iff.mp H
            obtain ⟨⟨t190, t191, t192⟩, A130, H⟩ := H
            replace H : ((bits_Text.f kj6 ([] : List Int) l0).bind fun t193 => (if t193.length + l1.length < 140737488355328 then ((bits_TakeText.f kj6 (t193 ++ l1)).bind fun bt199 => (if t192 = 0 then (if bt199.2.2 = 0 then (if t190 = a2 then (if t191 = (t184.length : Int) then (if (strOfNums bt199.1).toList = (strOfNums l0).toList then (if bt199.2.1 = (t193.length : Int) then ((bits_Zig.f a3).bind fun t204 => ((bits_Zag.f t204).bind fun t205 => (if t205 = a3 then ((bits_Zag.f a2).bind fun t206 => ((bits_Zig.f t206).bind fun t207 => (if t207 = a2 then ((bits_Order.f a3).bind fun t208 => ((bits_Back.f t208).bind fun t209 => (if t209 = a3 then ((bits_Back.f a2).bind fun t210 => ((bits_Order.f t210).bind fun t211 => (some (t211 == a2)))) else (some false)))) else (some false)))) else (some false)))) else (some false)) else (some false)) else (some false)) else (some false)) else (some false)) else (some false))) else (none))) = some r := H
            have A13 := Aside0.mk A130
            clear A130
            replace H := Option.bind_eq_some_iff.mp H
            obtain ⟨t193, A140, H⟩ := H
            replace H : (if t193.length + l1.length < 140737488355328 then ((bits_TakeText.f kj6 (t193 ++ l1)).bind fun bt199 => (if t192 = 0 then (if bt199.2.2 = 0 then (if t190 = a2 then (if t191 = (t184.length : Int) then (if (strOfNums bt199.1).toList = (strOfNums l0).toList then (if bt199.2.1 = (t193.length : Int) then ((bits_Zig.f a3).bind fun t204 => ((bits_Zag.f t204).bind fun t205 => (if t205 = a3 then ((bits_Zag.f a2).bind fun t206 => ((bits_Zig.f t206).bind fun t207 => (if t207 = a2 then ((bits_Order.f a3).bind fun t208 => ((bits_Back.f t208).bind fun t209 => (if t209 = a3 then ((bits_Back.f a2).bind fun t210 => ((bits_Order.f t210).bind fun t211 => (some (t211 == a2)))) else (some false)))) else (some false)))) else (some false)))) else (some false)) else (some false)) else (some false)) else (some false)) else (some false)) else (some false))) else (none)) = some r := H
            have A14 := Aside0.mk A140
            clear A140
            by_cases c15 : t193.length + l1.length < 140737488355328
            · rw [if_pos c15] at H
              have LMc15 := Aside0.mk c15
              clear c15
              obtain ⟨y196, hy196⟩ : ∃ y_ : List Int, y_ = (t193 ++ l1) := ⟨_, rfl⟩
              replace H : ((bits_TakeText.f kj6 y196).bind fun bt199 => (if t192 = 0 then (if bt199.2.2 = 0 then (if t190 = a2 then (if t191 = (t184.length : Int) then (if (strOfNums bt199.1).toList = (strOfNums l0).toList then (if bt199.2.1 = (t193.length : Int) then ((bits_Zig.f a3).bind fun t204 => ((bits_Zag.f t204).bind fun t205 => (if t205 = a3 then ((bits_Zag.f a2).bind fun t206 => ((bits_Zig.f t206).bind fun t207 => (if t207 = a2 then ((bits_Order.f a3).bind fun t208 => ((bits_Back.f t208).bind fun t209 => (if t209 = a3 then ((bits_Back.f a2).bind fun t210 => ((bits_Order.f t210).bind fun t211 => (some (t211 == a2)))) else (some false)))) else (some false)))) else (some false)))) else (some false)) else (some false)) else (some false)) else (some false)) else (some false)) else (some false))) = some r := by first | (rw [hy196]; with_reducible exact H) | (have H2_ := (Option.bind_some _ _).symm.trans H; rw [hy196]; with_reducible exact H2_) | (have H2_ := (Option.bind_some _ _).symm.trans H; with_reducible exact H2_) | with_reducible exact H | (rw [hy196]; exact H) | exact H
              have Ny196 := Aside0.mk hy196
              clear hy196
              replace H := Option.bind_eq_some_iff.mp H
              obtain ⟨⟨t199, t200, t201⟩, A160, H⟩ := H
              replace H : (if t192 = 0 then (if t201 = 0 then (if t190 = a2 then (if t191 = (t184.length : Int) then (if (strOfNums t199).toList = (strOfNums l0).toList then (if t200 = (t193.length : Int) then ((bits_Zig.f a3).bind fun t204 => ((bits_Zag.f t204).bind fun t205 => (if t205 = a3 then ((bits_Zag.f a2).bind fun t206 => ((bits_Zig.f t206).bind fun t207 => (if t207 = a2 then ((bits_Order.f a3).bind fun t208 => ((bits_Back.f t208).bind fun t209 => (if t209 = a3 then ((bits_Back.f a2).bind fun t210 => ((bits_Order.f t210).bind fun t211 => (some (t211 == a2)))) else (some false)))) else (some false)))) else (some false)))) else (some false)) else (some false)) else (some false)) else (some false)) else (some false)) else (some false)) = some r := H
              have A16 := Aside0.mk A160
              clear A160
              by_cases c17 : t192 = 0
              · rw [if_pos c17] at H
                have c17b0 : (t192 == 0) = true := beq_iff_eq.mpr c17
                have c17b1 : (t192 != 0) = false := bne_eq_false_iff_eq.mpr c17
                clear c17
                by_cases c18 : t201 = 0
                · rw [if_pos c18] at H
                  have c18b0 : (t201 == 0) = true := beq_iff_eq.mpr c18
                  have c18b1 : (t201 != 0) = false := bne_eq_false_iff_eq.mpr c18
                  clear c18
                  by_cases c19 : t190 = a2
                  · rw [if_pos c19] at H
                    have c19b0 : (t190 == a2) = true := beq_iff_eq.mpr c19
                    have c19b1 : (t190 != a2) = false := bne_eq_false_iff_eq.mpr c19
                    clear c19
                    by_cases c20 : t191 = (t184.length : Int)
                    · rw [if_pos c20] at H
                      have c20b0 : (t191 == (t184.length : Int)) = true := beq_iff_eq.mpr c20
                      have c20b1 : (t191 != (t184.length : Int)) = false := bne_eq_false_iff_eq.mpr c20
                      clear c20
                      by_cases c21 : (strOfNums t199).toList = (strOfNums l0).toList
                      · rw [if_pos c21] at H
                        have c21b0 : ((strOfNums t199).toList == (strOfNums l0).toList) = true := beq_iff_eq.mpr c21
                        have c21b1 : ((strOfNums t199).toList != (strOfNums l0).toList) = false := bne_eq_false_iff_eq.mpr c21
                        clear c21
                        by_cases c22 : t200 = (t193.length : Int)
                        · rw [if_pos c22] at H
                          have c22b0 : (t200 == (t193.length : Int)) = true := beq_iff_eq.mpr c22
                          have c22b1 : (t200 != (t193.length : Int)) = false := bne_eq_false_iff_eq.mpr c22
                          clear c22
                          replace H := Option.bind_eq_some_iff.mp H
                          obtain ⟨t204, A230, H⟩ := H
                          replace H : ((bits_Zag.f t204).bind fun t205 => (if t205 = a3 then ((bits_Zag.f a2).bind fun t206 => ((bits_Zig.f t206).bind fun t207 => (if t207 = a2 then ((bits_Order.f a3).bind fun t208 => ((bits_Back.f t208).bind fun t209 => (if t209 = a3 then ((bits_Back.f a2).bind fun t210 => ((bits_Order.f t210).bind fun t211 => (some (t211 == a2)))) else (some false)))) else (some false)))) else (some false))) = some r := H
                          have A23 := Aside0.mk A230
                          clear A230
                          replace H := Option.bind_eq_some_iff.mp H
                          obtain ⟨t205, A240, H⟩ := H
                          replace H : (if t205 = a3 then ((bits_Zag.f a2).bind fun t206 => ((bits_Zig.f t206).bind fun t207 => (if t207 = a2 then ((bits_Order.f a3).bind fun t208 => ((bits_Back.f t208).bind fun t209 => (if t209 = a3 then ((bits_Back.f a2).bind fun t210 => ((bits_Order.f t210).bind fun t211 => (some (t211 == a2)))) else (some false)))) else (some false)))) else (some false)) = some r := H
                          have A24 := Aside0.mk A240
                          clear A240
                          by_cases c25 : t205 = a3
                          · rw [if_pos c25] at H
                            have c25b0 : (t205 == a3) = true := beq_iff_eq.mpr c25
                            have c25b1 : (t205 != a3) = false := bne_eq_false_iff_eq.mpr c25
                            clear c25
                            replace H := Option.bind_eq_some_iff.mp H
                            obtain ⟨t206, A260, H⟩ := H
                            replace H : ((bits_Zig.f t206).bind fun t207 => (if t207 = a2 then ((bits_Order.f a3).bind fun t208 => ((bits_Back.f t208).bind fun t209 => (if t209 = a3 then ((bits_Back.f a2).bind fun t210 => ((bits_Order.f t210).bind fun t211 => (some (t211 == a2)))) else (some false)))) else (some false))) = some r := H
                            have A26 := Aside0.mk A260
                            clear A260
                            replace H := Option.bind_eq_some_iff.mp H
                            obtain ⟨t207, A270, H⟩ := H
                            replace H : (if t207 = a2 then ((bits_Order.f a3).bind fun t208 => ((bits_Back.f t208).bind fun t209 => (if t209 = a3 then ((bits_Back.f a2).bind fun t210 => ((bits_Order.f t210).bind fun t211 => (some (t211 == a2)))) else (some false)))) else (some false)) = some r := H
                            have A27 := Aside0.mk A270
                            clear A270
                            by_cases c28 : t207 = a2
                            · rw [if_pos c28] at H
                              have c28b0 : (t207 == a2) = true := beq_iff_eq.mpr c28
                              have c28b1 : (t207 != a2) = false := bne_eq_false_iff_eq.mpr c28
                              clear c28
                              replace H := Option.bind_eq_some_iff.mp H
                              obtain ⟨t208, A290, H⟩ := H
                              replace H : ((bits_Back.f t208).bind fun t209 => (if t209 = a3 then ((bits_Back.f a2).bind fun t210 => ((bits_Order.f t210).bind fun t211 => (some (t211 == a2)))) else (some false))) = some r := H
                              have A29 := Aside0.mk A290
                              clear A290
                              replace H := Option.bind_eq_some_iff.mp H
                              obtain ⟨t209, A300, H⟩ := H
                              replace H : (if t209 = a3 then ((bits_Back.f a2).bind fun t210 => ((bits_Order.f t210).bind fun t211 => (some (t211 == a2)))) else (some false)) = some r := H
                              have A30 := Aside0.mk A300
                              clear A300
                              by_cases c31 : t209 = a3
                              · rw [if_pos c31] at H
                                have c31b0 : (t209 == a3) = true := beq_iff_eq.mpr c31
                                have c31b1 : (t209 != a3) = false := bne_eq_false_iff_eq.mpr c31
                                clear c31
                                replace H := Option.bind_eq_some_iff.mp H
                                obtain ⟨t210, A320, H⟩ := H
                                replace H : ((bits_Order.f t210).bind fun t211 => (some (t211 == a2))) = some r := H
                                have A32 := Aside0.mk A320
                                clear A320
                                replace H := Option.bind_eq_some_iff.mp H
                                obtain ⟨t211, A330, H⟩ := H
                                replace H : (some (t211 == a2)) = some r := H
                                have A33 := Aside0.mk A330
                                clear A330
                                obtain rfl := Option.some.inj H
                                go_wp2_with (first | ((with_reducible refine gate_callee (f := 19) rfl ?_); refine goesL_ (some 30) rfl rfl Try.func19 (by kernel_rfl) rfl #[.slice none 0 0, .int .u64 a2] rfl (by (try simp only [List.map_toArray, List.map_cons, List.map_nil]); first | done | rfl | (simp only [List.length_drop, List.length_take]; rfl)) ?_; (refine (bits_Var.calls kj6 _ _ ([] : List Int) a2 t184 _ ?side1 ?side2 A11.out).mono ?_); (case side1 => exact Kd.C_nil _ _); (case side2 => exact Nat.le_refl _); rintro e w34 ⟨v185, rfl, ho0, hb⟩; refine ⟨_, rfl, ?_⟩; have n0_ := Aside0.mk (Kd.R_lower ho0 (below_size (by repeat (first | (with_reducible first | exact HB.out | apply below_alloc | apply pw_below_drewN | apply below_drew1) | exact HB.out)))); have n1_ := Aside0.mk (below_step (by repeat (first | (with_reducible first | exact HB.out | apply below_alloc | apply pw_below_drewN | apply below_drew1) | exact HB.out)) hb); clear HB; have HO186 := n0_; have HB := n1_; clear n0_ n1_; (try clear hb); (try clear hb2); (try clear hk); (try clear hi); (try clear ho0); obtain ⟨Ao35, co35, eo35⟩ := Kd.R_slice HO186.out; subst eo35) | ((with_reducible refine gate_builtin (b := .append) (xs := #[.tmp 34, .tmp 35]) rfl ?_); (try (refine gate_guard (by rfl) ?_; dsimp only)); at_builtin; refine Kd.R_append_rows (Kd.int .u8) (w0 := w) w.heap.size rfl (.tmp 34) (.tmp 35) 27 5 (.int .u8 0) 1 rfl Try.underlying27 info5 rfl (by decide) (by omega) (.slice Ao35 t184.length co35) t184 l1 _ _ _ (fun _ => True) (fun _ => False) rfl rfl ?aO ?aR (fun _ _ h => h) (fun _ h => h.elim) ?aF ?aB ?aS ?aL ?_; (case aR => repeat (first | exact (Kd.C_below HR1.out HB.out) | (with_reducible refine Kd.C_alloc ?_ _) | (with_reducible refine Kd.C_drewN ?_ _) | (with_reducible refine Kd.C_drew ?_))); (case aB => exact (by repeat (first | (with_reducible first | exact HB.out | apply below_alloc | apply pw_below_drewN | apply below_drew1) | exact HB.out))); (case aF => exact (fun _ _ => trivial)); (case aO => exact (by (with_reducible repeat (first | apply Kd.R_alloc | apply Kd.R_drewN | apply Kd.R_drew)); exact HO186.out)); (case aS => exact (below_size (by repeat (first | (with_reducible first | exact HB.out | apply below_alloc | apply pw_below_drewN | apply below_drew1) | exact HB.out)))); (case aL => have := LMc12.out; omega); intro v188 w36 ho hb hg hat; rw [← Ny187.out] at ho; have n0_ := Aside0.mk (hb); have n1_ := Aside0.mk (ho); clear HB; clear HO186; have HB := n0_; have HO189 := n1_; clear n0_ n1_; clear ho hb hg hat; obtain ⟨Ao37, co37, eo37⟩ := Kd.R_slice HO189.out; subst eo37) | ((with_reducible refine gate_callee (f := 30) rfl ?_); refine goesL_ (some 37) rfl rfl Try.func30 (by kernel_rfl) rfl #[.slice Ao37 y187.length co37] rfl (by (try simp only [List.map_toArray, List.map_cons, List.map_nil]); first | done | rfl | (simp only [List.length_drop, List.length_take]; rfl)) ?_; (with_reducible refine (bits_TakeVar.calls kj6 _ _ y187 t190 t191 t192 _ ?side1 ?side2 A13.out).mono ?_); (case side1 => repeat (first | exact (Kd.R_reads' HO189.out).2.2 | (with_reducible refine Kd.C_alloc ?_ _) | (with_reducible refine Kd.C_drewN ?_ _) | (with_reducible refine Kd.C_drew ?_))); (case side2 => exact (Kd.R_reads' HO189.out).2.1); rintro e w' ⟨rfl, ⟨nd, rfl⟩⟩; refine ⟨_, rfl, ?_⟩) | ((with_reducible refine gate_callee (f := 23) rfl ?_); refine goesL_ (some 42) rfl rfl Try.func23 (by kernel_rfl) rfl #[.slice none 0 0, .slice A0 l0.length c0] rfl (by (try simp only [List.map_toArray, List.map_cons, List.map_nil]); first | done | rfl | (simp only [List.length_drop, List.length_take]; rfl)) ?_; (refine (bits_Text.calls kj6 _ _ ([] : List Int) _ _ l0 t193 _ ?side1 ?side2 ?side3 ?side4 A14.out).mono ?_); (case side1 => exact Kd.C_nil _ _); (case side2 => exact Nat.le_refl _); (case side3 => repeat (first | exact (Kd.C_below HR0.out (by repeat (first | (with_reducible first | exact HB.out | apply below_alloc | apply pw_below_drewN | apply below_drew1) | exact HB.out))) | (with_reducible refine Kd.C_alloc ?_ _) | (with_reducible refine Kd.C_drewN ?_ _) | (with_reducible refine Kd.C_drew ?_))); (case side4 => exact HC0.out); rintro e w38 ⟨v194, rfl, ho0, hb⟩; refine ⟨_, rfl, ?_⟩; have n0_ := Aside0.mk (Kd.R_elder' (by (with_reducible repeat (first | apply Kd.R_alloc | apply Kd.R_drewN | apply Kd.R_drew)); exact HO189.out) (Kd.R_base ho0) hb); have n1_ := Aside0.mk (Kd.R_lower (Kd.R_new' ho0 (Kd.R_lt (by (with_reducible repeat (first | apply Kd.R_alloc | apply Kd.R_drewN | apply Kd.R_drew)); exact HO189.out))) (below_size (by repeat (first | (with_reducible first | exact HB.out | apply below_alloc | apply pw_below_drewN | apply below_drew1) | exact HB.out)))); have n2_ := Aside0.mk (below_step (by repeat (first | (with_reducible first | exact HB.out | apply below_alloc | apply pw_below_drewN | apply below_drew1) | exact HB.out)) hb); clear HO189; clear HB; have HO189 := n0_; have HO195 := n1_; have HB := n2_; clear n0_ n1_ n2_; (try clear hb); (try clear hb2); (try clear hk); (try clear hi); (try clear ho0); obtain ⟨Ao39, co39, eo39⟩ := Kd.R_slice HO195.out; subst eo39) | ((with_reducible refine gate_builtin (b := .append) (xs := #[.tmp 46, .tmp 47]) rfl ?_); (try (refine gate_guard (by rfl) ?_; dsimp only)); at_builtin; refine Kd.R_append_rows (Kd.int .u8) (w0 := w) w.heap.size rfl (.tmp 46) (.tmp 47) 27 5 (.int .u8 0) 1 rfl Try.underlying27 info5 rfl (by decide) (by omega) (.slice Ao39 t193.length co39) t193 l1 _ _ _ (fun k_ => some k_ ≠ (.slice Ao37 y187.length co37 : Value).ownBlock) (fun _ => False) rfl rfl ?aO ?aR (fun _ _ h => h) (fun _ h => h.elim) ?aF ?aB ?aS ?aL ?_; (case aR => repeat (first | exact (Kd.C_below HR1.out HB.out) | (with_reducible refine Kd.C_alloc ?_ _) | (with_reducible refine Kd.C_drewN ?_ _) | (with_reducible refine Kd.C_drew ?_))); (case aB => exact (by repeat (first | (with_reducible first | exact HB.out | apply below_alloc | apply pw_below_drewN | apply below_drew1) | exact HB.out))); (case aF => exact (fun k_ hk => Kd.fresh' (Kd.R_lt (by (with_reducible repeat (first | apply Kd.R_alloc | apply Kd.R_drewN | apply Kd.R_drew)); exact HO189.out)) k_ hk)); (case aO => exact (by (with_reducible repeat (first | apply Kd.R_alloc | apply Kd.R_drewN | apply Kd.R_drew)); exact Kd.R_mono HO195.out (fun _ hk => hk.2))); (case aS => exact (below_size (by repeat (first | (with_reducible first | exact HB.out | apply below_alloc | apply pw_below_drewN | apply below_drew1) | exact HB.out)))); (case aL => have := LMc15.out; omega); intro v197 w40 ho hb hg hat; rw [← Ny196.out] at ho; have n0_ := Aside0.mk (Kd.R_after (ok := (fun _ => True)) (by (with_reducible repeat (first | apply Kd.R_alloc | apply Kd.R_drewN | apply Kd.R_drew)); exact HO189.out) hg hat); have n1_ := Aside0.mk (hb); have n2_ := Aside0.mk (ho); clear HO189; clear HB; clear HO195; have HO189 := n0_; have HB := n1_; have HO198 := n2_; clear n0_ n1_ n2_; clear ho hb hg hat; obtain ⟨Ao41, co41, eo41⟩ := Kd.R_slice HO198.out; subst eo41) | ((with_reducible refine gate_callee (f := 32) rfl ?_); refine goesL_ (some 49) rfl rfl Try.func32 (by kernel_rfl) rfl #[.slice Ao41 y196.length co41] rfl (by (try simp only [List.map_toArray, List.map_cons, List.map_nil]); first | done | rfl | (simp only [List.length_drop, List.length_take]; rfl)) ?_; (with_reducible refine (bits_TakeText.calls kj6 _ _ y196 t199 t200 t201 _ ?side1 ?side2 A16.out).mono ?_); (case side1 => repeat (first | exact (Kd.R_reads' HO198.out).2.2 | (with_reducible refine Kd.C_alloc ?_ _) | (with_reducible refine Kd.C_drewN ?_ _) | (with_reducible refine Kd.C_drew ?_))); (case side2 => exact (Kd.R_reads' HO198.out).2.1); rintro e w42 ⟨v202, rfl, ho0, hb⟩; refine ⟨_, rfl, ?_⟩; have n0_ := Aside0.mk (Kd.R_elder' (by (with_reducible repeat (first | apply Kd.R_alloc | apply Kd.R_drewN | apply Kd.R_drew)); exact HO189.out) (Kd.R_base ho0) hb); have n1_ := Aside0.mk (Kd.R_elder' (by (with_reducible repeat (first | apply Kd.R_alloc | apply Kd.R_drewN | apply Kd.R_drew)); exact HO198.out) (Kd.R_base ho0) hb); have n2_ := Aside0.mk (Kd.R_lower (Kd.R_new' (Kd.R_new' ho0 (Kd.R_lt (by (with_reducible repeat (first | apply Kd.R_alloc | apply Kd.R_drewN | apply Kd.R_drew)); exact HO189.out))) (Kd.R_lt (by (with_reducible repeat (first | apply Kd.R_alloc | apply Kd.R_drewN | apply Kd.R_drew)); exact HO198.out))) (below_size (by repeat (first | (with_reducible first | exact HB.out | apply below_alloc | apply pw_below_drewN | apply below_drew1) | exact HB.out)))); have n3_ := Aside0.mk (below_step (by repeat (first | (with_reducible first | exact HB.out | apply below_alloc | apply pw_below_drewN | apply below_drew1) | exact HB.out)) hb); clear HO189; clear HO198; clear HB; have HO189 := n0_; have HO198 := n1_; have HO203 := n2_; have HB := n3_; clear n0_ n1_ n2_ n3_; (try clear hb); (try clear hb2); (try clear hk); (try clear hi); (try clear ho0); have hcv43 := own_string (P := Try.prog) Try.underlying27 Try.underlying5 Try.underlying9 (Kd.own_of_R HO203.out); have hcv44 := fun nq_ => own_string (P := Try.prog) Try.underlying27 Try.underlying5 Try.underlying9 (Kd.own_of_R (Kd.R_drewN HO203.out nq_)); have hcv45 := Kd.C_string (P := Try.prog) (A := A0) (c := c0) Try.underlying27 Try.underlying5 Try.underlying9 (Kd.C_below HR0.out HB.out); have hcv46 := fun nq_ => Kd.C_string (P := Try.prog) (A := A0) (c := c0) Try.underlying27 Try.underlying5 Try.underlying9 (Kd.C_drewN (Kd.C_below HR0.out HB.out) nq_)) | (go_at_call 11; (with_reducible refine (bits_Zig.calls a3 t204 _ A23.out).mono ?_); rintro e w' ⟨rfl, ⟨nd, rfl⟩⟩) | (go_at_call 13; (with_reducible refine (bits_Zag.calls t204 t205 _ A24.out).mono ?_); rintro e w' ⟨rfl, ⟨nd, rfl⟩⟩) | (go_at_call 13; (with_reducible refine (bits_Zag.calls a2 t206 _ A26.out).mono ?_); rintro e w' ⟨rfl, ⟨nd, rfl⟩⟩) | (go_at_call 11; (with_reducible refine (bits_Zig.calls t206 t207 _ A27.out).mono ?_); rintro e w' ⟨rfl, ⟨nd, rfl⟩⟩) | (go_at_call 15; (with_reducible refine (bits_Order.calls a3 t208 _ A29.out).mono ?_); rintro e w' ⟨rfl, ⟨nd, rfl⟩⟩) | (go_at_call 17; (with_reducible refine (bits_Back.calls t208 t209 _ A30.out).mono ?_); rintro e w' ⟨rfl, ⟨nd, rfl⟩⟩) | (go_at_call 17; (with_reducible refine (bits_Back.calls a2 t210 _ A32.out).mono ?_); rintro e w' ⟨rfl, ⟨nd, rfl⟩⟩) | (go_at_call 15; (with_reducible refine (bits_Order.calls t210 t211 _ A33.out).mono ?_); rintro e w' ⟨rfl, ⟨nd, rfl⟩⟩))
                                go_ret
                                exact ⟨by first | rfl | (simp [errW_none, errW_some] <;> rfl) | (simp [*, errW_none, errW_some] <;> rfl), by repeat (first | (with_reducible first | exact HB.out | apply below_alloc | apply pw_below_drewN | apply below_drew1) | exact HB.out)⟩
                              · rw [if_neg c31] at H
                                have c31b0 : (t209 == a3) = false := beq_eq_false_iff_ne.mpr c31
                                have c31b1 : (t209 != a3) = true := bne_iff_ne.mpr c31
                                exact absurd ((Option.some.inj H).trans hr_.out) (by decide)
                            · rw [if_neg c28] at H
                              have c28b0 : (t207 == a2) = false := beq_eq_false_iff_ne.mpr c28
                              have c28b1 : (t207 != a2) = true := bne_iff_ne.mpr c28
                              exact absurd ((Option.some.inj H).trans hr_.out) (by decide)
                          · rw [if_neg c25] at H
                            have c25b0 : (t205 == a3) = false := beq_eq_false_iff_ne.mpr c25
                            have c25b1 : (t205 != a3) = true := bne_iff_ne.mpr c25
                            exact absurd ((Option.some.inj H).trans hr_.out) (by decide)
                        · rw [if_neg c22] at H
                          have c22b0 : (t200 == (t193.length : Int)) = false := beq_eq_false_iff_ne.mpr c22
                          have c22b1 : (t200 != (t193.length : Int)) = true := bne_iff_ne.mpr c22
                          exact absurd ((Option.some.inj H).trans hr_.out) (by decide)
                      · rw [if_neg c21] at H
                        have c21b0 : ((strOfNums t199).toList == (strOfNums l0).toList) = false := beq_eq_false_iff_ne.mpr c21
                        have c21b1 : ((strOfNums t199).toList != (strOfNums l0).toList) = true := bne_iff_ne.mpr c21
                        exact absurd ((Option.some.inj H).trans hr_.out) (by decide)
                    · rw [if_neg c20] at H
                      have c20b0 : (t191 == (t184.length : Int)) = false := beq_eq_false_iff_ne.mpr c20
                      have c20b1 : (t191 != (t184.length : Int)) = true := bne_iff_ne.mpr c20
                      exact absurd ((Option.some.inj H).trans hr_.out) (by decide)
                  · rw [if_neg c19] at H
                    have c19b0 : (t190 == a2) = false := beq_eq_false_iff_ne.mpr c19
                    have c19b1 : (t190 != a2) = true := bne_iff_ne.mpr c19
                    exact absurd ((Option.some.inj H).trans hr_.out) (by decide)
                · rw [if_neg c18] at H
                  have c18b0 : (t201 == 0) = false := beq_eq_false_iff_ne.mpr c18
                  have c18b1 : (t201 != 0) = true := bne_iff_ne.mpr c18
                  exact absurd ((Option.some.inj H).trans hr_.out) (by decide)
              · rw [if_neg c17] at H
                have c17b0 : (t192 == 0) = false := beq_eq_false_iff_ne.mpr c17
                have c17b1 : (t192 != 0) = true := bne_iff_ne.mpr c17
                exact absurd ((Option.some.inj H).trans hr_.out) (by decide)
            · rw [if_neg c15] at H
              exact absurd H (by simp)
          · rw [if_neg c12] at H
            exact absurd H (by simp)
  · replace c6 := Bool.eq_false_iff.mpr c6
    subst c6
    have H1 : (some false) = some r := by rw [if_neg (show ¬ (false = true) by decide)] at H; exact H
    clear H
    have H := H1
    clear H1
    exact absurd ((Option.some.inj H).trans hr_.out) (by decide)

/-- THE ONE PURE STATEMENT of antipodelaw1_BitsBack: yours. -/
def antipodelaw1_BitsBack.Pure : Prop := ∀ (l0 : List Int) (l1 : List Int) (a2 : Int) (a3 : Int), l0.length ≤ maxLen → l0.length * 1 ≤ 140737488351232 → (∀ x ∈ l0, (Lit.int .u8 x).wf = true) → l1.length ≤ maxLen → l1.length * 1 ≤ 140737488351232 → (∀ x ∈ l1, (Lit.int .u8 x).wf = true) → (Lit.int .u64 a2).wf = true → (Lit.int .i64 a3).wf = true → ∃ k, antipodelaw1_BitsBack.f k l0 l1 a2 a3 = some true
theorem antipodelaw1_BitsBack.walk (P : antipodelaw1_BitsBack.Pure) (a0 : Option Addr) (len0 cap0 : Nat) (z0 : List Int) (a1 : Option Addr) (len1 cap1 : Nat) (z1 : List Int) (a2 : Int) (a3 : Int) (w : World) (w0 : (a0 = none ∧ len0 = 0 ∧ cap0 = 0 ∧ z0 = []) ∨ ∃ x, a0 = some x ∧ len0 ≤ cap0 ∧ cap0 ≤ maxLen ∧ z0.length = cap0 ∧ (∀ i, i < z0.length → w.cell? (x.add i) = some (.int .u8 (z0.getD i 0))) ∧ ∀ n ∈ z0, (Lit.int .u8 n).wf = true) (y0 : len0 * 1 ≤ 140737488351232) (w1 : (a1 = none ∧ len1 = 0 ∧ cap1 = 0 ∧ z1 = []) ∨ ∃ x, a1 = some x ∧ len1 ≤ cap1 ∧ cap1 ≤ maxLen ∧ z1.length = cap1 ∧ (∀ i, i < z1.length → w.cell? (x.add i) = some (.int .u8 (z1.getD i 0))) ∧ ∀ n ∈ z1, (Lit.int .u8 n).wf = true) (y1 : len1 * 1 ≤ 140737488351232) (w2 : (Lit.int .u64 a2).wf = true) (w3 : (Lit.int .i64 a3).wf = true) :
    Calls Try.prog 9 #[.slice a0 len0 cap0, .slice a1 len1 cap1, .int .u64 a2, .int .i64 a3] w fun e w' => e = .returned (.bool true) ∧ Below w.heap.size w w' := by
  obtain ⟨l0, rfl, hr0, hm0, hw0, hc0⟩ := ReadsInt.ofRowC w0
  obtain ⟨l1, rfl, hr1, hm1, hw1, hc1⟩ := ReadsInt.ofRowC w1
  obtain ⟨k, h⟩ := P l0 l1 a2 a3 hm0 y0 hw0 hm1 y1 hw1 w2 w3
  refine (antipodelaw1_BitsBack.calls k _ _ l0 _ _ l1 a2 a3 true w (Kd.C_of_reads (d := (0 : Int)) (h1 := fun _ => rfl) hr0) hc0 (Kd.C_of_reads (d := (0 : Int)) (h1 := fun _ => rfl) hr1) hc1 ⟨rfl⟩ h).mono ?_
  rintro e w' ⟨rfl, hd⟩
  exact ⟨rfl, hd⟩

end Go.Proofs.Ytdklkeocmjofkaa.QA

/- Written by a program of this session (wip/myprint.sh): contracts of Go functions of the translation: each call comes to what the Lean function of its name says. -/
import Derived.Test.YtloonjdkiafafaaQLx0
import Derived.Test.YtloonjdkiafafaaQLx1
import Derived.Test.YtloonjdkiafafaaQLx2
import Derived.Test.YtloonjdkiafafaaQLx3
import Derived.Test.YtloonjdkiafafaaQLx4
namespace Go.Proofs.Ytloonjdkiafafaa.QL
open Go.RowKit Go.Proofs.YtloonjdkiafafaaW.PrintWords Go.Proofs.YtloonjdkiafafaaW.PrintLast Go.Proofs.YtloonjdkiafafaaW.PrintMore
attribute [local go_sem] max2_int min2_int max_two min_two max_three min_three max_four min_four   -- for this text's walks alone
set_option linter.unusedVariables false
set_option linter.unusedSimpArgs false

attribute [local go_sem high] eqA23 eqA40
/-! ### antipodelaw6_StampLine: function 7 -/
mutual
def antipodelaw6_StampLine.j0 : Nat → Bool → Int → Int → Int → Int → Int → Int → Int → Int → Int → Int → Int → Int → Int → Int → Int → Int → Option (Bool)
  | 0, _, _, _, _, _, _, _, _, _, _, _, _, _, _, _, _, _ => none
  | k + 1, x13, x135000, x135001, x136000, x136001, x138000, x138001, x138002, x138003, x139000, x139001, x139002, x139003, x140000, x140001, x140002, x140003 => (stamp_LessTry.f k x138000 x138001 x138002 x138003 x139000 x139001 x139002 x139003).bind fun t154 => (if t154 = true then (if ((x138000 == x139000 && (x138001 == x139001 && (x138002 == x139002 && (x138003 == x139003)))) == false) = true then ((stamp_LessTry.f k x138000 x138001 x138002 x138003 x139000 x139001 x139002 x139003).bind fun _t156 => ((stamp_LessTry.f k x139000 x139001 x139002 x139003 x138000 x138001 x138002 x138003).bind fun t157 => (if t157 = true then (antipodelaw6_StampLine.j1 k x13 false x135000 x135001 x136000 x136001) else ((stamp_LessTry.f k x138000 x138001 x138002 x138003 x139000 x139001 x139002 x139003).bind fun _t159 => ((stamp_LessTry.f k x139000 x139001 x139002 x139003 x140000 x140001 x140002 x140003).bind fun t160 => (if t160 = true then ((stamp_LessTry.f k x138000 x138001 x138002 x138003 x140000 x140001 x140002 x140003).bind fun t161 => (antipodelaw6_StampLine.j1 k x13 (!(!t161)) x135000 x135001 x136000 x136001)) else (antipodelaw6_StampLine.j1 k x13 (!false) x135000 x135001 x136000 x136001))))))) else (antipodelaw6_StampLine.j1 k x13 false x135000 x135001 x136000 x136001)) else ((stamp_LessTry.f k x139000 x139001 x139002 x139003 x138000 x138001 x138002 x138003).bind fun t162 => (if ((x138000 == x139000 && (x138001 == x139001 && (x138002 == x139002 && (x138003 == x139003)))) == (!t162)) = true then ((stamp_LessTry.f k x138000 x138001 x138002 x138003 x139000 x139001 x139002 x139003).bind fun _t164 => ((stamp_LessTry.f k x138000 x138001 x138002 x138003 x139000 x139001 x139002 x139003).bind fun _t166 => (antipodelaw6_StampLine.j1 k x13 (!false) x135000 x135001 x136000 x136001))) else (antipodelaw6_StampLine.j1 k x13 false x135000 x135001 x136000 x136001))))
def antipodelaw6_StampLine.j1 : Nat → Bool → Bool → Int → Int → Int → Int → Option (Bool)
  | 0, _, _, _, _, _, _ => none
  | k + 1, x13, x14, x135000, x135001, x136000, x136001 => (stamp_Max.f k x135000 x135001 x136000 x136001).bind fun bt167 => (if x13 = true then (if x14 = true then (if (bt167.1 == x135000 && (bt167.2 == x135001)) = true then ((stamp_Less.f k bt167.1 bt167.2 x135000 x135001).bind fun t170 => (if t170 = true then (some false) else ((stamp_Less.f k bt167.1 bt167.2 x136000 x136001).bind fun t171 => (some (!t171))))) else (if (bt167.1 == x136000 && (bt167.2 == x136001)) = true then ((stamp_Less.f k bt167.1 bt167.2 x135000 x135001).bind fun t172 => (if t172 = true then (some false) else ((stamp_Less.f k bt167.1 bt167.2 x136000 x136001).bind fun t173 => (some (!t173))))) else (some false))) else (some false)) else (some false))
end
def antipodelaw6_StampLine.f (k : Nat) (a0_0 : Int) (a0_1 : Int) (a1_0 : Int) (a1_1 : Int) (a2_0 : Int) (a2_1 : Int) (a3_0 : Int) (a3_1 : Int) (a3_2 : Int) (a3_3 : Int) (a4_0 : Int) (a4_1 : Int) (a4_2 : Int) (a4_3 : Int) (a5_0 : Int) (a5_1 : Int) (a5_2 : Int) (a5_3 : Int) : Option (Bool) := (antipodelaw6_begun.f k).bind fun t140 => (if t140 = true then ((stamp_Less.f k a0_0 a0_1 a1_0 a1_1).bind fun t141 => (if t141 = true then (if ((a0_0 == a1_0 && (a0_1 == a1_1)) == false) = true then ((stamp_Less.f k a0_0 a0_1 a1_0 a1_1).bind fun _t143 => ((stamp_Less.f k a1_0 a1_1 a0_0 a0_1).bind fun t144 => (if t144 = true then (antipodelaw6_StampLine.j0 k false a0_0 a0_1 a1_0 a1_1 a3_0 a3_1 a3_2 a3_3 a4_0 a4_1 a4_2 a4_3 a5_0 a5_1 a5_2 a5_3) else ((stamp_Less.f k a0_0 a0_1 a1_0 a1_1).bind fun _t146 => ((stamp_Less.f k a1_0 a1_1 a2_0 a2_1).bind fun t147 => (if t147 = true then ((stamp_Less.f k a0_0 a0_1 a2_0 a2_1).bind fun t148 => (antipodelaw6_StampLine.j0 k (!(!t148)) a0_0 a0_1 a1_0 a1_1 a3_0 a3_1 a3_2 a3_3 a4_0 a4_1 a4_2 a4_3 a5_0 a5_1 a5_2 a5_3)) else (antipodelaw6_StampLine.j0 k (!false) a0_0 a0_1 a1_0 a1_1 a3_0 a3_1 a3_2 a3_3 a4_0 a4_1 a4_2 a4_3 a5_0 a5_1 a5_2 a5_3))))))) else (antipodelaw6_StampLine.j0 k false a0_0 a0_1 a1_0 a1_1 a3_0 a3_1 a3_2 a3_3 a4_0 a4_1 a4_2 a4_3 a5_0 a5_1 a5_2 a5_3)) else ((stamp_Less.f k a1_0 a1_1 a0_0 a0_1).bind fun t149 => (if ((a0_0 == a1_0 && (a0_1 == a1_1)) == (!t149)) = true then ((stamp_Less.f k a0_0 a0_1 a1_0 a1_1).bind fun _t151 => ((stamp_Less.f k a0_0 a0_1 a1_0 a1_1).bind fun _t153 => (antipodelaw6_StampLine.j0 k (!false) a0_0 a0_1 a1_0 a1_1 a3_0 a3_1 a3_2 a3_3 a4_0 a4_1 a4_2 a4_3 a5_0 a5_1 a5_2 a5_3))) else (antipodelaw6_StampLine.j0 k false a0_0 a0_1 a1_0 a1_1 a3_0 a3_1 a3_2 a3_3 a4_0 a4_1 a4_2 a4_3 a5_0 a5_1 a5_2 a5_3))))) else (some false))
theorem antipodelaw6_StampLine.mono_l : ∀ k, (∀ y0 y1 y2 y3 y4 y5 y6 y7 y8 y9 y10 y11 y12 y13 y14 y15 y16, LeO (antipodelaw6_StampLine.j0 k y0 y1 y2 y3 y4 y5 y6 y7 y8 y9 y10 y11 y12 y13 y14 y15 y16) (antipodelaw6_StampLine.j0 (k + 1) y0 y1 y2 y3 y4 y5 y6 y7 y8 y9 y10 y11 y12 y13 y14 y15 y16)) ∧ (∀ y0 y1 y2 y3 y4 y5, LeO (antipodelaw6_StampLine.j1 k y0 y1 y2 y3 y4 y5) (antipodelaw6_StampLine.j1 (k + 1) y0 y1 y2 y3 y4 y5))
  | 0 => ⟨fun _ _ _ _ _ _ _ _ _ _ _ _ _ _ _ _ _ r h => by simp [antipodelaw6_StampLine.j0] at h, fun _ _ _ _ _ _ r h => by simp [antipodelaw6_StampLine.j1] at h⟩
  | k + 1 => by
    obtain ⟨ih0, ih1⟩ := antipodelaw6_StampLine.mono_l k
    refine ⟨?_, ?_⟩
    · intro y0 y1 y2 y3 y4 y5 y6 y7 y8 y9 y10 y11 y12 y13 y14 y15 y16
      unfold antipodelaw6_StampLine.j0
      repeat' first
      | (with_reducible exact ih0 _ _ _ _ _ _ _ _ _ _ _ _ _ _ _ _ _)
      | (with_reducible exact ih1 _ _ _ _ _ _)
      | (with_reducible exact antipodelaw6_begun.mono _)
      | (with_reducible exact stamp_Less.mono _ _ _ _ _)
      | (with_reducible exact stamp_LessTry.mono _ _ _ _ _ _ _ _ _)
      | (with_reducible exact stamp_Max.mono _ _ _ _ _)
      | (with_reducible exact LeO.refl _)
      | (with_reducible exact LeO.none _)
      | (with_reducible refine LeO.ite ?_ ?_)
      | (with_reducible refine LeO.bind ?_ (fun _ => ?_))
      | exact ih0 _ _ _ _ _ _ _ _ _ _ _ _ _ _ _ _ _
      | exact ih1 _ _ _ _ _ _
      | exact antipodelaw6_begun.mono _
      | exact stamp_Less.mono _ _ _ _ _
      | exact stamp_LessTry.mono _ _ _ _ _ _ _ _ _
      | exact stamp_Max.mono _ _ _ _ _
      | exact LeO.none _
      | refine LeO.ite ?_ ?_
      | refine LeO.bind ?_ (fun _ => ?_)
    · intro y0 y1 y2 y3 y4 y5
      unfold antipodelaw6_StampLine.j1
      repeat' first
      | (with_reducible exact ih0 _ _ _ _ _ _ _ _ _ _ _ _ _ _ _ _ _)
      | (with_reducible exact ih1 _ _ _ _ _ _)
      | (with_reducible exact antipodelaw6_begun.mono _)
      | (with_reducible exact stamp_Less.mono _ _ _ _ _)
      | (with_reducible exact stamp_LessTry.mono _ _ _ _ _ _ _ _ _)
      | (with_reducible exact stamp_Max.mono _ _ _ _ _)
      | (with_reducible exact LeO.refl _)
      | (with_reducible exact LeO.none _)
      | (with_reducible refine LeO.ite ?_ ?_)
      | (with_reducible refine LeO.bind ?_ (fun _ => ?_))
      | exact ih0 _ _ _ _ _ _ _ _ _ _ _ _ _ _ _ _ _
      | exact ih1 _ _ _ _ _ _
      | exact antipodelaw6_begun.mono _
      | exact stamp_Less.mono _ _ _ _ _
      | exact stamp_LessTry.mono _ _ _ _ _ _ _ _ _
      | exact stamp_Max.mono _ _ _ _ _
      | exact LeO.none _
      | refine LeO.ite ?_ ?_
      | refine LeO.bind ?_ (fun _ => ?_)
theorem antipodelaw6_StampLine.mono : ∀ a0 a1 a2 a3 a4 a5 a6 a7 a8 a9 a10 a11 a12 a13 a14 a15 a16 a17 k, LeO (antipodelaw6_StampLine.f k a0 a1 a2 a3 a4 a5 a6 a7 a8 a9 a10 a11 a12 a13 a14 a15 a16 a17) (antipodelaw6_StampLine.f (k + 1) a0 a1 a2 a3 a4 a5 a6 a7 a8 a9 a10 a11 a12 a13 a14 a15 a16 a17) := by
  intro a0 a1 a2 a3 a4 a5 a6 a7 a8 a9 a10 a11 a12 a13 a14 a15 a16 a17 k
  obtain ⟨ih0, ih1⟩ := antipodelaw6_StampLine.mono_l k
  unfold antipodelaw6_StampLine.f
  repeat' first
      | (with_reducible exact ih0 _ _ _ _ _ _ _ _ _ _ _ _ _ _ _ _ _)
      | (with_reducible exact ih1 _ _ _ _ _ _)
      | (with_reducible exact antipodelaw6_begun.mono _)
      | (with_reducible exact stamp_Less.mono _ _ _ _ _)
      | (with_reducible exact stamp_LessTry.mono _ _ _ _ _ _ _ _ _)
      | (with_reducible exact stamp_Max.mono _ _ _ _ _)
      | (with_reducible exact LeO.refl _)
      | (with_reducible exact LeO.none _)
      | (with_reducible refine LeO.ite ?_ ?_)
      | (with_reducible refine LeO.bind ?_ (fun _ => ?_))
      | exact ih0 _ _ _ _ _ _ _ _ _ _ _ _ _ _ _ _ _
      | exact ih1 _ _ _ _ _ _
      | exact antipodelaw6_begun.mono _
      | exact stamp_Less.mono _ _ _ _ _
      | exact stamp_LessTry.mono _ _ _ _ _ _ _ _ _
      | exact stamp_Max.mono _ _ _ _ _
      | exact LeO.none _
      | refine LeO.ite ?_ ?_
      | refine LeO.bind ?_ (fun _ => ?_)
def antipodelaw6_StampLine.T3 : Bool × List (List Nat × List Nat) := (true, [([], []), ([], []), ([0, 1], [0, 1]), ([], []), ([], []), ([3, 4], [3, 4]), ([5], [5]), ([6, 5], [6]), ([7], [7]), ([7], [7]), ([8, 9, 7, 7], [7, 8, 9]), ([10, 7], [7, 10]), ([7, 11], [7, 11]), ([2, 12], [2, 12]), ([13, 10], [13]), ([14], [14]), ([14], [14]), ([15, 16, 14, 14], [14, 15, 16]), ([17, 17, 14], [14, 17]), ([18], [18]), ([18], [18]), ([19, 20, 18, 18], [18, 19, 20]), ([18, 21, 14], [14, 18, 21]), ([22, 14], [14, 22]), ([14, 23], [14, 23]), ([24, 21], [24]), ([25], [25]), ([25], [25]), ([26, 27, 25, 25], [25, 26, 27]), ([28, 28, 25], [25, 28]), ([29], [29]), ([29], [29]), ([30, 31, 29, 29], [29, 30, 31]), ([29, 32, 25], [25, 29, 32]), ([33, 32, 25], [25, 33]), ([34], [34]), ([34], [34]), ([35, 36, 34, 34], [34, 35, 36]), ([37, 34], [34, 37]), ([34, 38, 25], [25, 34, 38]), ([39, 25], [25, 39]), ([25, 40], [25, 40]), ([41, 37, 0, 1, 2, 3, 4, 5, 6, 7, 8, 9, 10, 11, 12, 13, 14, 15, 16, 17, 18, 19, 20, 21, 22, 23, 24, 25, 26, 27, 28, 29, 30, 31, 32, 33, 34, 35, 36, 37, 38, 39, 40, 41], [41])])
def antipodelaw6_StampLine.B3 : List Nat := [0, 0, 3, 0, 0, 24, 56, 120, 248, 248, 1016, 2040, 4088, 8191, 16383, 32767, 32767, 131071, 262143, 524287, 524287, 2097151, 4194303, 8388607, 16777215, 33554431, 67108863, 67108863, 268435455, 536870911, 1073741823, 1073741823, 4294967295, 8589934591, 17179869183, 34359738367, 34359738367, 137438953471, 274877906943, 549755813887, 1099511627775, 2199023255551, 4398046511103]
theorem antipodelaw6_StampLine.tab3 : rtab .any (opsOf Try.f7 3) = antipodelaw6_StampLine.T3 := by kernel_rfl
theorem antipodelaw6_StampLine.bits3 : waitsOk antipodelaw6_StampLine.T3.2 antipodelaw6_StampLine.B3 = true := by kernel_rfl
def antipodelaw6_StampLine.T4 : Bool × List (List Nat × List Nat) := (true, [([], []), ([], []), ([0, 1], [0, 1]), ([], []), ([], []), ([3, 4], [3, 4]), ([5], [5]), ([6, 5], [6]), ([7], [7]), ([7], [7]), ([8, 9, 7, 7], [7, 8, 9]), ([10, 7], [7, 10]), ([7, 11], [7, 11]), ([2, 12], [2, 12]), ([13, 10], [13]), ([14], [14]), ([14], [14]), ([15, 16, 14, 14], [14, 15, 16]), ([17, 17, 14], [14, 17]), ([18], [18]), ([18], [18]), ([19, 20, 18, 18], [18, 19, 20]), ([18, 21, 14], [14, 18, 21]), ([22, 14], [14, 22]), ([14, 23], [14, 23]), ([24, 21], [24]), ([25], [25]), ([25], [25]), ([26, 27, 25, 25], [25, 26, 27]), ([28, 28, 25], [25, 28]), ([29], [29]), ([29], [29]), ([30, 31, 29, 29], [29, 30, 31]), ([29, 32, 25], [25, 29, 32]), ([33, 32, 25], [25, 33]), ([34], [34]), ([34], [34]), ([35, 36, 34, 34], [34, 35, 36]), ([37, 34], [34, 37]), ([34, 38, 25], [25, 34, 38]), ([39, 25], [25, 39]), ([25, 40], [25, 40]), ([41, 37, 0, 1, 2, 3, 4, 5, 6, 7, 8, 9, 10, 11, 12, 13, 14, 15, 16, 17, 18, 19, 20, 21, 22, 23, 24, 25, 26, 27, 28, 29, 30, 31, 32, 33, 34, 35, 36, 37, 38, 39, 40, 41], [41])])
def antipodelaw6_StampLine.B4 : List Nat := [0, 0, 3, 0, 0, 24, 56, 120, 248, 248, 1016, 2040, 4088, 8191, 16383, 32767, 32767, 131071, 262143, 524287, 524287, 2097151, 4194303, 8388607, 16777215, 33554431, 67108863, 67108863, 268435455, 536870911, 1073741823, 1073741823, 4294967295, 8589934591, 17179869183, 34359738367, 34359738367, 137438953471, 274877906943, 549755813887, 1099511627775, 2199023255551, 4398046511103]
theorem antipodelaw6_StampLine.tab4 : rtab .any (opsOf Try.f7 4) = antipodelaw6_StampLine.T4 := by kernel_rfl
theorem antipodelaw6_StampLine.bits4 : waitsOk antipodelaw6_StampLine.T4.2 antipodelaw6_StampLine.B4 = true := by kernel_rfl
theorem antipodelaw6_StampLine.j1_nt0 (k : Nat) (x135000 : Int) (x135001 : Int) (x136000 : Int) (x136001 : Int) : NT.NT (antipodelaw6_StampLine.j1 k false false x135000 x135001 x136000 x136001) := by
  cases k with
  | zero => exact NT.none_
  | succ k =>
    rw [antipodelaw6_StampLine.j1]
    repeat (first | exact NT.none_ | exact NT.false_ | exact NT.not_ | exact antipodelaw6_StampLine.j1_nt0 _ _ _ _ _ | exact antipodelaw6_StampLine.j1_nt1 _ _ _ _ _ _ | exact antipodelaw6_StampLine.j0_nt2 _ _ _ _ _ _ _ _ _ _ _ _ _ _ _ _ _ | exact antipodelaw6_StampLine.j1_nt3 _ _ _ _ _ _ | refine NT.bind_ fun _ => ?_ | refine NT.no_if ?_ | refine NT.yes_if ?_ | refine NT.ite_ ?_ ?_)
theorem antipodelaw6_StampLine.j1_nt1 (k : Nat) (x14 : Bool) (x135000 : Int) (x135001 : Int) (x136000 : Int) (x136001 : Int) : NT.NT (antipodelaw6_StampLine.j1 k false x14 x135000 x135001 x136000 x136001) := by
  cases k with
  | zero => exact NT.none_
  | succ k =>
    rw [antipodelaw6_StampLine.j1]
    repeat (first | exact NT.none_ | exact NT.false_ | exact NT.not_ | exact antipodelaw6_StampLine.j1_nt0 _ _ _ _ _ | exact antipodelaw6_StampLine.j1_nt1 _ _ _ _ _ _ | exact antipodelaw6_StampLine.j0_nt2 _ _ _ _ _ _ _ _ _ _ _ _ _ _ _ _ _ | exact antipodelaw6_StampLine.j1_nt3 _ _ _ _ _ _ | refine NT.bind_ fun _ => ?_ | refine NT.no_if ?_ | refine NT.yes_if ?_ | refine NT.ite_ ?_ ?_)
theorem antipodelaw6_StampLine.j0_nt2 (k : Nat) (x135000 : Int) (x135001 : Int) (x136000 : Int) (x136001 : Int) (x138000 : Int) (x138001 : Int) (x138002 : Int) (x138003 : Int) (x139000 : Int) (x139001 : Int) (x139002 : Int) (x139003 : Int) (x140000 : Int) (x140001 : Int) (x140002 : Int) (x140003 : Int) : NT.NT (antipodelaw6_StampLine.j0 k false x135000 x135001 x136000 x136001 x138000 x138001 x138002 x138003 x139000 x139001 x139002 x139003 x140000 x140001 x140002 x140003) := by
  cases k with
  | zero => exact NT.none_
  | succ k =>
    rw [antipodelaw6_StampLine.j0]
    repeat (first | exact NT.none_ | exact NT.false_ | exact NT.not_ | exact antipodelaw6_StampLine.j1_nt0 _ _ _ _ _ | exact antipodelaw6_StampLine.j1_nt1 _ _ _ _ _ _ | exact antipodelaw6_StampLine.j0_nt2 _ _ _ _ _ _ _ _ _ _ _ _ _ _ _ _ _ | exact antipodelaw6_StampLine.j1_nt3 _ _ _ _ _ _ | refine NT.bind_ fun _ => ?_ | refine NT.no_if ?_ | refine NT.yes_if ?_ | refine NT.ite_ ?_ ?_)
theorem antipodelaw6_StampLine.j1_nt3 (k : Nat) (x13 : Bool) (x135000 : Int) (x135001 : Int) (x136000 : Int) (x136001 : Int) : NT.NT (antipodelaw6_StampLine.j1 k x13 false x135000 x135001 x136000 x136001) := by
  cases k with
  | zero => exact NT.none_
  | succ k =>
    rw [antipodelaw6_StampLine.j1]
    repeat (first | exact NT.none_ | exact NT.false_ | exact NT.not_ | exact antipodelaw6_StampLine.j1_nt0 _ _ _ _ _ | exact antipodelaw6_StampLine.j1_nt1 _ _ _ _ _ _ | exact antipodelaw6_StampLine.j0_nt2 _ _ _ _ _ _ _ _ _ _ _ _ _ _ _ _ _ | exact antipodelaw6_StampLine.j1_nt3 _ _ _ _ _ _ | refine NT.bind_ fun _ => ?_ | refine NT.no_if ?_ | refine NT.yes_if ?_ | refine NT.ite_ ?_ ?_)
namespace antipodelaw6_StampLine.Short
@[reducible] def M0 : Array Bool := #[false, false, false, false, false, false, false, false, false, false, false, false, false, false, false, false, false, false, false, false, false, false, false, false, false, false, false, false, false, false, false, false, false, false, false, false, false, false, false, false, false, false, false]
@[reducible] def M1 : Array Bool := #[true, false, false, false, false, false, false, false, false, false, false, false, false, false, false, false, false, false, false, false, false, false, false, false, false, false, false, false, false, false, false, false, false, false, false, false, false, false, false, false, false, false, false]
@[reducible] def M2 : Array Bool := #[true, true, false, false, false, false, false, false, false, false, false, false, false, false, false, false, false, false, false, false, false, false, false, false, false, false, false, false, false, false, false, false, false, false, false, false, false, false, false, false, false, false, false]
@[reducible] def M3 : Array Bool := #[true, true, true, false, false, false, false, false, false, false, false, false, false, false, false, false, false, false, false, false, false, false, false, false, false, false, false, false, false, false, false, false, false, false, false, false, false, false, false, false, false, false, false]
@[reducible] def M4 : Array Bool := #[true, true, true, true, false, false, false, false, false, false, false, false, false, false, false, false, false, false, false, false, false, false, false, false, false, false, false, false, false, false, false, false, false, false, false, false, false, false, false, false, false, false, false]
@[reducible] def M5 : Array Bool := #[true, true, true, true, true, false, false, false, false, false, false, false, false, false, false, false, false, false, false, false, false, false, false, false, false, false, false, false, false, false, false, false, false, false, false, false, false, false, false, false, false, false, false]
@[reducible] def M6 : Array Bool := #[true, true, true, true, true, true, false, false, false, false, false, false, false, false, false, false, false, false, false, false, false, false, false, false, false, false, false, false, false, false, false, false, false, false, false, false, false, false, false, false, false, false, false]
@[reducible] def M7 : Array Bool := #[true, true, true, true, true, true, true, false, false, false, false, false, false, false, false, false, false, false, false, false, false, false, false, false, false, false, false, false, false, false, false, false, false, false, false, false, false, false, false, false, false, false, false]
@[reducible] def M8 : Array Bool := #[true, true, true, true, true, true, true, true, false, false, false, false, false, false, false, false, false, false, false, false, false, false, false, false, false, false, false, false, false, false, false, false, false, false, false, false, false, false, false, false, false, false, false]
@[reducible] def M9 : Array Bool := #[true, true, true, true, true, true, true, true, true, false, false, false, false, false, false, false, false, false, false, false, false, false, false, false, false, false, false, false, false, false, false, false, false, false, false, false, false, false, false, false, false, false, false]
@[reducible] def M10 : Array Bool := #[true, true, true, true, true, true, true, true, true, true, false, false, false, false, false, false, false, false, false, false, false, false, false, false, false, false, false, false, false, false, false, false, false, false, false, false, false, false, false, false, false, false, false]
@[reducible] def M11 : Array Bool := #[true, true, true, true, true, true, true, true, true, true, true, false, false, false, false, false, false, false, false, false, false, false, false, false, false, false, false, false, false, false, false, false, false, false, false, false, false, false, false, false, false, false, false]
@[reducible] def M12 : Array Bool := #[true, true, true, true, true, true, true, true, true, true, true, true, false, false, false, false, false, false, false, false, false, false, false, false, false, false, false, false, false, false, false, false, false, false, false, false, false, false, false, false, false, false, false]
@[reducible] def M13 : Array Bool := #[true, true, true, true, true, true, true, true, true, true, true, true, true, false, false, false, false, false, false, false, false, false, false, false, false, false, false, false, false, false, false, false, false, false, false, false, false, false, false, false, false, false, false]
@[reducible] def M14 : Array Bool := #[true, true, true, true, true, true, true, true, true, true, true, true, true, true, false, false, false, false, false, false, false, false, false, false, false, false, false, false, false, false, false, false, false, false, false, false, false, false, false, false, false, false, false]
@[reducible] def M15 : Array Bool := #[true, true, true, true, true, true, true, true, true, true, true, true, true, true, true, false, false, false, false, false, false, false, false, false, false, false, false, false, false, false, false, false, false, false, false, false, false, false, false, false, false, false, false]
@[reducible] def M16 : Array Bool := #[true, true, true, true, true, true, true, true, true, true, true, true, true, true, true, true, false, false, false, false, false, false, false, false, false, false, false, false, false, false, false, false, false, false, false, false, false, false, false, false, false, false, false]
@[reducible] def M17 : Array Bool := #[true, true, true, true, true, true, true, true, true, true, true, true, true, true, true, true, true, false, false, false, false, false, false, false, false, false, false, false, false, false, false, false, false, false, false, false, false, false, false, false, false, false, false]
@[reducible] def M18 : Array Bool := #[true, true, true, true, true, true, true, true, true, true, true, true, true, true, true, true, true, true, false, false, false, false, false, false, false, false, false, false, false, false, false, false, false, false, false, false, false, false, false, false, false, false, false]
@[reducible] def M19 : Array Bool := #[true, true, true, true, true, true, true, true, true, true, true, true, true, true, true, true, true, true, true, false, false, false, false, false, false, false, false, false, false, false, false, false, false, false, false, false, false, false, false, false, false, false, false]
@[reducible] def M20 : Array Bool := #[true, true, true, true, true, true, true, true, true, true, true, true, true, true, true, true, true, true, true, true, false, false, false, false, false, false, false, false, false, false, false, false, false, false, false, false, false, false, false, false, false, false, false]
@[reducible] def M21 : Array Bool := #[true, true, true, true, true, true, true, true, true, true, true, true, true, true, true, true, true, true, true, true, true, false, false, false, false, false, false, false, false, false, false, false, false, false, false, false, false, false, false, false, false, false, false]
@[reducible] def M22 : Array Bool := #[true, true, true, true, true, true, true, true, true, true, true, true, true, true, true, true, true, true, true, true, true, true, false, false, false, false, false, false, false, false, false, false, false, false, false, false, false, false, false, false, false, false, false]
@[reducible] def M23 : Array Bool := #[true, true, true, true, true, true, true, true, true, true, true, true, true, true, true, true, true, true, true, true, true, true, true, false, false, false, false, false, false, false, false, false, false, false, false, false, false, false, false, false, false, false, false]
@[reducible] def M24 : Array Bool := #[true, true, true, true, true, true, true, true, true, true, true, true, true, true, true, true, true, true, true, true, true, true, true, true, false, false, false, false, false, false, false, false, false, false, false, false, false, false, false, false, false, false, false]
@[reducible] def M25 : Array Bool := #[true, true, true, true, true, true, true, true, true, true, true, true, true, true, true, true, true, true, true, true, true, true, true, true, true, false, false, false, false, false, false, false, false, false, false, false, false, false, false, false, false, false, false]
@[reducible] def M26 : Array Bool := #[true, true, true, true, true, true, true, true, true, true, true, true, true, true, true, true, true, true, true, true, true, true, true, true, true, true, false, false, false, false, false, false, false, false, false, false, false, false, false, false, false, false, false]
@[reducible] def M27 : Array Bool := #[true, true, true, true, true, true, true, true, true, true, true, true, true, true, true, true, true, true, true, true, true, true, true, true, true, true, true, false, false, false, false, false, false, false, false, false, false, false, false, false, false, false, false]
@[reducible] def M28 : Array Bool := #[true, true, true, true, true, true, true, true, true, true, true, true, true, true, true, true, true, true, true, true, true, true, true, true, true, true, true, true, false, false, false, false, false, false, false, false, false, false, false, false, false, false, false]
@[reducible] def M29 : Array Bool := #[true, true, true, true, true, true, true, true, true, true, true, true, true, true, true, true, true, true, true, true, true, true, true, true, true, true, true, true, true, false, false, false, false, false, false, false, false, false, false, false, false, false, false]
@[reducible] def M30 : Array Bool := #[true, true, true, true, true, true, true, true, true, true, true, true, true, true, true, true, true, true, true, true, true, true, true, true, true, true, true, true, true, true, false, false, false, false, false, false, false, false, false, false, false, false, false]
@[reducible] def M31 : Array Bool := #[true, true, true, true, true, true, true, true, true, true, true, true, true, true, true, true, true, true, true, true, true, true, true, true, true, true, true, true, true, true, true, false, false, false, false, false, false, false, false, false, false, false, false]
@[reducible] def M32 : Array Bool := #[true, true, true, true, true, true, true, true, true, true, true, true, true, true, true, true, true, true, true, true, true, true, true, true, true, true, true, true, true, true, true, true, false, false, false, false, false, false, false, false, false, false, false]
@[reducible] def M33 : Array Bool := #[true, true, true, true, true, true, true, true, true, true, true, true, true, true, true, true, true, true, true, true, true, true, true, true, true, true, true, true, true, true, true, true, true, false, false, false, false, false, false, false, false, false, false]
@[reducible] def M34 : Array Bool := #[true, true, true, true, true, true, true, true, true, true, true, true, true, true, true, true, true, true, true, true, true, true, true, true, true, true, true, true, true, true, true, true, true, true, false, false, false, false, false, false, false, false, false]
@[reducible] def M35 : Array Bool := #[true, true, true, true, true, true, true, true, true, true, true, true, true, true, true, true, true, true, true, true, true, true, true, true, true, true, true, true, true, true, true, true, true, true, true, false, false, false, false, false, false, false, false]
@[reducible] def M36 : Array Bool := #[true, true, true, true, true, true, true, true, true, true, true, true, true, true, true, true, true, true, true, true, true, true, true, true, true, true, true, true, true, true, true, true, true, true, true, true, false, false, false, false, false, false, false]
@[reducible] def M37 : Array Bool := #[true, true, true, true, true, true, true, true, true, true, true, true, true, true, true, true, true, true, true, true, true, true, true, true, true, true, true, true, true, true, true, true, true, true, true, true, true, false, false, false, false, false, false]
@[reducible] def M38 : Array Bool := #[true, true, true, true, true, true, true, true, true, true, true, true, true, true, true, true, true, true, true, true, true, true, true, true, true, true, true, true, true, true, true, true, true, true, true, true, true, true, false, false, false, false, false]
@[reducible] def M39 : Array Bool := #[true, true, true, true, true, true, true, true, true, true, true, true, true, true, true, true, true, true, true, true, true, true, true, true, true, true, true, true, true, true, true, true, true, true, true, true, true, true, true, false, false, false, false]
@[reducible] def M40 : Array Bool := #[true, true, true, true, true, true, true, true, true, true, true, true, true, true, true, true, true, true, true, true, true, true, true, true, true, true, true, true, true, true, true, true, true, true, true, true, true, true, true, true, false, false, false]
@[reducible] def M41 : Array Bool := #[true, true, true, true, true, true, true, true, true, true, true, true, true, true, true, true, true, true, true, true, true, true, true, true, true, true, true, true, true, true, true, true, true, true, true, true, true, true, true, true, true, false, false]
@[reducible] def M42 : Array Bool := #[true, true, true, true, true, true, true, true, true, true, true, true, true, true, true, true, true, true, true, true, true, true, true, true, true, true, true, true, true, true, true, true, true, true, true, true, true, true, true, true, true, true, false]
@[reducible] def M43 : Array Bool := #[true, true, true, true, true, true, true, true, true, true, true, true, true, true, true, true, true, true, true, true, true, true, true, true, true, true, true, true, true, true, true, true, true, true, true, true, true, true, true, true, true, true, true]
theorem S1 {α : Type} (l : List α) (i : Nat) (a : α) : l.toArray.setIfInBounds i a = (l.set i a).toArray := List.setIfInBounds_toArray ..
theorem S2 {α : Type} (x y : α) (l : List α) : (x :: l).set 0 y = y :: l := rfl
theorem S3 {α : Type} (x y : α) (n : Nat) (l : List α) : (x :: l).set (n + 1) y = x :: l.set n y := rfl
theorem KA {w : World} {g : Nat} {o : Obj} (h : w.heap[g]? = some o) (o' : Obj) : (w.alloc o').heap[g]? = some o := blk_alloc h o'
theorem KD {w : World} {g : Nat} {o : Obj} (h : w.heap[g]? = some o) : w.drew.heap[g]? = some o := blk_drew h
theorem KN {w : World} {g : Nat} {o : Obj} (h : w.heap[g]? = some o) (n : Nat) : (w.drewN n).heap[g]? = some o := blk_drewN h n

end antipodelaw6_StampLine.Short
end Go.Proofs.Ytloonjdkiafafaa.QL


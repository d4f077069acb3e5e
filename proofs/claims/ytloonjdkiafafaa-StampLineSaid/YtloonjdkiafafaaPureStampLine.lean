/- StampLine joined: stamps, and attempts, stand in a line, for all of them. No condition. -/
import Derived.Test.YtloonjdkiafafaaQLd
import Derived.Test.YtloonjdkiafafaaFacts
namespace Go.Proofs.Ytloonjdkiafafaa.PureLine
open Go.RowKit Go.Proofs.Ytloonjdkiafafaa.QL Go.Proofs.YtloonjdkiafafaaW.PrintWords Go.Proofs.YtloonjdkiafafaaW.PrintLast Go.Proofs.YtloonjdkiafafaaW.PrintMore Go.Proofs.Ytloonjdkiafafaa.Facts

theorem begun_line : antipodelaw6_begun.f 24 = some true := by decide +kernel
/-- Which stamp is the lesser one. -/
def lessB (a b c d : Int) : Bool := decide (a < c) || (decide (a = c) && decide (b < d))
/-- Which attempt is the lesser one. -/
def lessT (a b c d e f g h : Int) : Bool := decide (a < e) || (decide (a = e) && (decide (b < f) || (decide (b = f) && (decide (c < g) || (decide (c = g) && decide (d < h))))))
/-- -1, 0, 1. -/
def cm (a b : Int) : Int := if a < b then -1 else if a > b then 1 else 0
theorem cmp_calls (a b : Int) : cmp_Compare_int64.f a b = some (cm a b) := by
  unfold cmp_Compare_int64.f cm
  have h : ∀ x : Int, cmp_isNaN_int64.f x = some false := fun x => by unfold cmp_isNaN_int64.f; simp
  rw [h, h]
  simp only [Option.bind_some]
  rw [if_neg (by decide), if_neg (by decide)]
  split
  · rfl
  · split <;> rfl
theorem cmpi_calls (a b : Int) : cmp_Compare_int.f a b = some (cm a b) := by
  unfold cmp_Compare_int.f cm
  have h : ∀ x : Int, cmp_isNaN_int.f x = some false := fun x => by unfold cmp_isNaN_int.f; simp
  rw [h, h]
  simp only [Option.bind_some]
  rw [if_neg (by decide), if_neg (by decide)]
  split
  · rfl
  · split <;> rfl
/-- The first that is not 0. -/
def firstOf : List Int → Int
  | [] => 0
  | x :: l => if x = 0 then firstOf l else x
theorem or_step (k : Nat) (l : List Int) (i : Nat) (hl : l.length < 1000) : ∀ m, l.length - i = m → i ≤ l.length → m < k → cmp_Or_int.l0 k 0 l (l.length : Int) (i : Int) = some (firstOf (l.drop i)) := by
  induction k generalizing i with
  | zero => intro m _ _ h; omega
  | succ k ih =>
    intro m hm hi hk
    rw [cmp_Or_int.l0]
    by_cases c : i < l.length
    · rw [if_pos (by omega), if_pos (by omega), if_pos (by omega)]
      have hr : rd l (i : Int) = l[i] := by unfold rd; simp [c]
      rw [List.drop_eq_getElem_cons c, firstOf, hr]
      by_cases z : l[i] = 0
      · rw [if_pos z, if_pos z, w64_id (by omega) (by omega)]
        exact ih (i + 1) (m - 1) (by omega) (by omega) (by omega)
      · rw [if_neg z, if_neg z]
    · rw [if_neg (by omega), List.drop_of_length_le (by omega)]
      rfl
theorem or_calls (k : Nat) (l : List Int) (hl : l.length < 1000) (hk : l.length < k) : cmp_Or_int.f k l = some (firstOf l) := by
  unfold cmp_Or_int.f
  exact or_step k l 0 hl l.length (by omega) (by omega) hk
theorem cm_lt (a b : Int) : (cm a b < 0 ↔ a < b) ∧ (cm a b = 0 ↔ a = b) := by unfold cm; constructor <;> (repeat' split) <;> omega
theorem first_cons (x : Int) (l : List Int) : (firstOf (x :: l) < 0 ↔ x < 0 ∨ x = 0 ∧ firstOf l < 0) := by
  rw [firstOf]; split <;> omega
theorem first_one (x : Int) : firstOf [x] = x := by rw [firstOf, firstOf]; split <;> omega
theorem less_calls (k : Nat) (hk : 5 ≤ k) (a b c d : Int) : stamp_Less.f k a b c d = some (lessB a b c d) := by
  unfold stamp_Less.f
  refine bind_to (cmp_calls a c) (bind_to (cmp_calls b d) (bind_to (or_calls k _ (by simp) (by simp; omega)) ?_))
  unfold lessB
  refine congrArg some ?_
  rw [Bool.eq_iff_iff]
  simp only [decide_eq_true_eq, Bool.or_eq_true, Bool.and_eq_true, first_cons, first_one, (cm_lt _ _).1, (cm_lt _ _).2]
theorem lessTry_calls (k : Nat) (hk : 5 ≤ k) (a b c d e f g h : Int) : stamp_LessTry.f k a b c d e f g h = some (lessT a b c d e f g h) := by
  unfold stamp_LessTry.f
  refine bind_to (cmpi_calls a e) (bind_to (cmpi_calls b f) (bind_to (cmpi_calls c g) (bind_to (cmpi_calls d h) (bind_to (or_calls k _ (by simp) (by simp; omega)) ?_))))
  unfold lessT
  refine congrArg some ?_
  rw [Bool.eq_iff_iff]
  simp only [decide_eq_true_eq, Bool.or_eq_true, Bool.and_eq_true, first_cons, first_one, (cm_lt _ _).1, (cm_lt _ _).2]
theorem max_calls (k : Nat) (hk : 5 ≤ k) (a b c d : Int) : stamp_Max.f k a b c d = some (if lessB a b c d = true then (c, d) else (a, b)) := by
  unfold stamp_Max.f
  refine bind_to (less_calls k hk a b c d) ?_
  split <;> rfl
theorem eqB (a b c d : Int) : (a == c && (b == d)) = (!lessB a b c d && !lessB c d a b) := by
  unfold lessB
  rw [Bool.eq_iff_iff]
  simp
  omega
theorem bothB (a b c d : Int) : (lessB a b c d && lessB c d a b) = false := by
  unfold lessB
  rw [Bool.eq_iff_iff]
  simp
  omega
theorem overB (a b c d e f : Int) (h1 : lessB a b c d = true) (h2 : lessB c d e f = true) : lessB a b e f = true := by
  revert h1 h2
  unfold lessB
  simp
  omega
theorem eqT (a b c d e f g h : Int) : (a == e && (b == f && (c == g && (d == h)))) = (!lessT a b c d e f g h && !lessT e f g h a b c d) := by
  unfold lessT
  rw [Bool.eq_iff_iff]
  simp
  omega
theorem bothT (a b c d e f g h : Int) : (lessT a b c d e f g h && lessT e f g h a b c d) = false := by
  unfold lessT
  rw [Bool.eq_iff_iff]
  simp
  omega
theorem overT (a b c d e f g h i j m n : Int) (h1 : lessT a b c d e f g h = true) (h2 : lessT e f g h i j m n = true) : lessT a b c d i j m n = true := by
  revert h1 h2
  unfold lessT
  simp
  omega
theorem selfB (a b : Int) : lessB a b a b = false := by unfold lessB; simp
theorem end_line (k : Nat) (hk : 5 ≤ k) (a0 a1 b0 b1 : Int) : antipodelaw6_StampLine.j1 (k + 1) true true a0 a1 b0 b1 = some true := by
  rw [antipodelaw6_StampLine.j1]
  simp only [less_calls k hk, max_calls k hk, Option.bind_some, eqB]
  have s1 := bothB a0 a1 b0 b1
  have s2 := selfB a0 a1
  have s3 := selfB b0 b1
  cases hm : lessB a0 a1 b0 b1
  · cases hn : lessB b0 b1 a0 a1 <;> simp_all
  · cases hn : lessB b0 b1 a0 a1 <;> simp_all
theorem j_line (k : Nat) (hk : 5 ≤ k) (a0 a1 b0 b1 x0 x1 x2 x3 y0 y1 y2 y3 z0 z1 z2 z3 : Int) : antipodelaw6_StampLine.j0 (k + 1 + 1) true a0 a1 b0 b1 x0 x1 x2 x3 y0 y1 y2 y3 z0 z1 z2 z3 = some true := by
  rw [antipodelaw6_StampLine.j0]
  simp only [lessTry_calls (k + 1) (by omega), Option.bind_some, eqT]
  have t1 := bothT x0 x1 x2 x3 y0 y1 y2 y3
  have t2 := overT x0 x1 x2 x3 y0 y1 y2 y3 z0 z1 z2 z3
  have he := end_line k hk a0 a1 b0 b1
  generalize lessT x0 x1 x2 x3 y0 y1 y2 y3 = p at *
  generalize lessT y0 y1 y2 y3 x0 x1 x2 x3 = q at *
  generalize lessT y0 y1 y2 y3 z0 z1 z2 z3 = r at *
  generalize lessT x0 x1 x2 x3 z0 z1 z2 z3 = s at *
  cases p <;> cases q <;> cases r <;> cases s <;> simp_all
theorem line_f (k : Nat) (hk : 5 ≤ k) (hb0 : antipodelaw6_begun.f (k + 1 + 1) = some true) (a0 a1 b0 b1 c0 c1 x0 x1 x2 x3 y0 y1 y2 y3 z0 z1 z2 z3 : Int) : antipodelaw6_StampLine.f (k + 1 + 1) a0 a1 b0 b1 c0 c1 x0 x1 x2 x3 y0 y1 y2 y3 z0 z1 z2 z3 = some true := by
  unfold antipodelaw6_StampLine.f
  refine bind_to hb0 ?_
  rw [if_pos rfl]
  simp only [less_calls (k + 1 + 1) (by omega), Option.bind_some, eqB]
  have s1 := bothB a0 a1 b0 b1
  have s2 := overB a0 a1 b0 b1 c0 c1
  have hj := j_line k hk a0 a1 b0 b1 x0 x1 x2 x3 y0 y1 y2 y3 z0 z1 z2 z3
  generalize lessB a0 a1 b0 b1 = p at *
  generalize lessB b0 b1 a0 a1 = q at *
  generalize lessB b0 b1 c0 c1 = r at *
  generalize lessB a0 a1 c0 c1 = s at *
  cases p <;> cases q <;> cases r <;> cases s <;> simp_all
end Go.Proofs.Ytloonjdkiafafaa.PureLine

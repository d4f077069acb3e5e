/- StampOrder joined: which stamp, which attempt, is the lesser one: as the document has it. No condition. -/
import Derived.Test.YtloonjdkiafafaaQOx
import Derived.Test.YtloonjdkiafafaaFacts
namespace Go.Proofs.Ytloonjdkiafafaa.PureOrder
open Go.RowKit Go.Proofs.Ytloonjdkiafafaa.QO Go.Proofs.YtloonjdkiafafaaW.PrintWords Go.Proofs.YtloonjdkiafafaaW.PrintLast Go.Proofs.YtloonjdkiafafaaW.PrintMore Go.Proofs.Ytloonjdkiafafaa.Facts

theorem begun_order : antipodelaw6_begun.f 24 = some true := by decide +kernel
/-- Which stamp is the lesser one. -/
def lessB (a b c d : Int) : Bool := decide (a < c) || (decide (a = c) && decide (b < d))
/-- Which attempt is the lesser one. -/
def lessT (a b c d e f g h : Int) : Bool := decide (a < e) || (decide (a = e) && (decide (b < f) || (decide (b = f) && (decide (c < g) || (decide (c = g) && decide (d < h))))))
/-- -1, 0, 1. -/
def cm (a b : Int) : Int := if a < b then -1 else if a > b then 1 else 0
theorem cmp_calls (a b : Int) : cmp_Compare_int64.f a b = some (cm a b) := by
  unfold cmp_Compare_int64.f cm
  have h : ∀ x : Int, cmp_isNaN_int64.f x = some false := fun x => by unfold cmp_isNaN_int64.f; simp
  rw [h, h]
  simp only [Option.bind_some]
  rw [if_neg (by decide), if_neg (by decide)]
  split
  · rfl
  · split <;> rfl
theorem cmpi_calls (a b : Int) : cmp_Compare_int.f a b = some (cm a b) := by
  unfold cmp_Compare_int.f cm
  have h : ∀ x : Int, cmp_isNaN_int.f x = some false := fun x => by unfold cmp_isNaN_int.f; simp
  rw [h, h]
  simp only [Option.bind_some]
  rw [if_neg (by decide), if_neg (by decide)]
  split
  · rfl
  · split <;> rfl
/-- The first that is not 0. -/
def firstOf : List Int → Int
  | [] => 0
  | x :: l => if x = 0 then firstOf l else x
theorem or_step (k : Nat) (l : List Int) (i : Nat) (hl : l.length < 1000) : ∀ m, l.length - i = m → i ≤ l.length → m < k → cmp_Or_int.l0 k 0 l (l.length : Int) (i : Int) = some (firstOf (l.drop i)) := by
  induction k generalizing i with
  | zero => intro m _ _ h; omega
  | succ k ih =>
    intro m hm hi hk
    rw [cmp_Or_int.l0]
    by_cases c : i < l.length
    · rw [if_pos (by omega), if_pos (by omega), if_pos (by omega)]
      have hr : rd l (i : Int) = l[i] := by unfold rd; simp [c]
      rw [List.drop_eq_getElem_cons c, firstOf, hr]
      by_cases z : l[i] = 0
      · rw [if_pos z, if_pos z, w64_id (by omega) (by omega)]
        exact ih (i + 1) (m - 1) (by omega) (by omega) (by omega)
      · rw [if_neg z, if_neg z]
    · rw [if_neg (by omega), List.drop_of_length_le (by omega)]
      rfl
theorem or_calls (k : Nat) (l : List Int) (hl : l.length < 1000) (hk : l.length < k) : cmp_Or_int.f k l = some (firstOf l) := by
  unfold cmp_Or_int.f
  exact or_step k l 0 hl l.length (by omega) (by omega) hk
theorem cm_lt (a b : Int) : (cm a b < 0 ↔ a < b) ∧ (cm a b = 0 ↔ a = b) := by unfold cm; constructor <;> (repeat' split) <;> omega
theorem first_cons (x : Int) (l : List Int) : (firstOf (x :: l) < 0 ↔ x < 0 ∨ x = 0 ∧ firstOf l < 0) := by
  rw [firstOf]; split <;> omega
theorem first_one (x : Int) : firstOf [x] = x := by rw [firstOf, firstOf]; split <;> omega
theorem less_calls (k : Nat) (hk : 5 ≤ k) (a b c d : Int) : stamp_Less.f k a b c d = some (lessB a b c d) := by
  unfold stamp_Less.f
  refine bind_to (cmp_calls a c) (bind_to (cmp_calls b d) (bind_to (or_calls k _ (by simp) (by simp; omega)) ?_))
  unfold lessB
  refine congrArg some ?_
  rw [Bool.eq_iff_iff]
  simp only [decide_eq_true_eq, Bool.or_eq_true, Bool.and_eq_true, first_cons, first_one, (cm_lt _ _).1, (cm_lt _ _).2]
theorem lessTry_calls (k : Nat) (hk : 5 ≤ k) (a b c d e f g h : Int) : stamp_LessTry.f k a b c d e f g h = some (lessT a b c d e f g h) := by
  unfold stamp_LessTry.f
  refine bind_to (cmpi_calls a e) (bind_to (cmpi_calls b f) (bind_to (cmpi_calls c g) (bind_to (cmpi_calls d h) (bind_to (or_calls k _ (by simp) (by simp; omega)) ?_))))
  unfold lessT
  refine congrArg some ?_
  rw [Bool.eq_iff_iff]
  simp only [decide_eq_true_eq, Bool.or_eq_true, Bool.and_eq_true, first_cons, first_one, (cm_lt _ _).1, (cm_lt _ _).2]
theorem max_calls (k : Nat) (hk : 5 ≤ k) (a b c d : Int) : stamp_Max.f k a b c d = some (if lessB a b c d = true then (c, d) else (a, b)) := by
  unfold stamp_Max.f
  refine bind_to (less_calls k hk a b c d) ?_
  split <;> rfl
theorem refLess (a b c d : Int) : antipoderef6_Less.f a b c d = some (lessB a b c d) := by
  unfold antipoderef6_Less.f lessB
  by_cases h : a = c
  · subst h
    simp
  · simp only [h, if_false, decide_false, Bool.false_and, Bool.or_false]
    split <;> simp_all
theorem refMax (a b c d : Int) : antipoderef6_Max.f a b c d = some (if lessB a b c d = true then (c, d) else (a, b)) := by
  unfold antipoderef6_Max.f
  refine bind_to (refLess a b c d) ?_
  split <;> rfl
theorem order_f (k : Nat) (hk : 5 ≤ k) (hb0 : antipodelaw6_begun.f k = some true) (a b c d x0 x1 x2 x3 y0 y1 y2 y3 : Int) : antipodelaw6_StampOrder.f k a b c d x0 x1 x2 x3 y0 y1 y2 y3 = some true := by
  unfold antipodelaw6_StampOrder.f
  refine bind_to hb0 ?_
  rw [if_pos rfl]
  refine bind_to (less_calls k hk a b c d) (bind_to (refLess a b c d) ?_)
  rw [if_pos (beq_self_eq_true _)]
  refine bind_to (max_calls k hk a b c d) (bind_to (refMax a b c d) ?_)
  rw [if_pos (by simp)]
  refine bind_to (lessTry_calls k hk x0 x1 x2 x3 y0 y1 y2 y3) (bind_to (show antipoderef6_LessTry.f x0 x1 x2 x3 y0 y1 y2 y3 = some (lessT x0 x1 x2 x3 y0 y1 y2 y3) from rfl) ?_)
  rw [beq_self_eq_true]
theorem order_walk (a b c d x0 x1 x2 x3 y0 y1 y2 y3 : Int) (w : World) :
    Calls Try.prog 6 #[.agg #[.int .i64 a, .int .i64 b], .agg #[.int .i64 c, .int .i64 d], .agg #[.int .i64 x0, .int .i64 x1, .int .i64 x2, .int .i64 x3], .agg #[.int .i64 y0, .int .i64 y1, .int .i64 y2, .int .i64 y3]] w fun e w' => e = .returned (.bool true) ∧ Below w.heap.size w w' :=
  antipodelaw6_StampOrder.calls 24 a b c d x0 x1 x2 x3 y0 y1 y2 y3 true w ⟨rfl⟩ (order_f 24 (by omega) begun_order a b c d x0 x1 x2 x3 y0 y1 y2 y3)
end Go.Proofs.Ytloonjdkiafafaa.PureOrder

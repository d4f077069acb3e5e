/- BitsRing joined: for all int64 a and b the law's call returns true, and only new memory is made. No condition beyond the statement's own. -/
import Derived.Test.YtdklkeocmjofkaaRingWalk
import Derived.Test.YtdklkeocmjofkaaMulFacts
namespace Go.Proofs.Ytdklkeocmjofkaa.Pure
open Go.RowKit Go.Proofs.Ytdklkeocmjofkaa.QA Go.Proofs.YtdklkeocmjofkaaW.PrintWords Go.Proofs.YtdklkeocmjofkaaW.PrintLast Go.Proofs.YtdklkeocmjofkaaW.PrintMore Go.Proofs.Ytdklkeocmjofkaa.Facts Go.Proofs.Ytdklkeocmjofkaa.RingWalk

theorem begun_ring : antipodelaw1_begun.f 20 = some true := by decide +kernel

theorem sum_comm (a b : Int) : sum64 b a = sum64 a b := by unfold sum64; rw [Int.add_comm]
theorem prod_comm (a b : Int) : prod64 b a = prod64 a b := by
  unfold prod64 most
  rw [Int.mul_comm b a, Int.mul_comm (mag b) (mag a)]
  have e : (decide (b < 0) != decide (a < 0)) = (decide (a < 0) != decide (b < 0)) := by
    cases decide (b < 0) <;> cases decide (a < 0) <;> rfl
  rw [e]
/-- A product that there is lies in the range. -/
theorem prod_in {a b : Int} (h : mag a * mag b ≤ most a b) : In64 (a * b) := by
  unfold most mag at h
  by_cases c : a < 0
  · by_cases d : b < 0
    · rw [decide_eq_true c, decide_eq_true d, if_pos c, if_pos d, if_neg (by decide), Int.neg_mul_neg] at h
      have h0 : 0 ≤ a * b := Int.mul_nonneg_of_nonpos_of_nonpos (by omega) (by omega)
      exact ⟨by omega, by omega⟩
    · rw [decide_eq_true c, decide_eq_false d, if_pos c, if_neg d, if_pos (by decide), Int.neg_mul] at h
      have h0 : a * b ≤ 0 := Int.mul_nonpos_of_nonpos_of_nonneg (by omega) (by omega)
      exact ⟨by omega, by omega⟩
  · by_cases d : b < 0
    · rw [decide_eq_false c, decide_eq_true d, if_neg c, if_pos d, if_pos (by decide), Int.mul_neg] at h
      have h0 : a * b ≤ 0 := Int.mul_nonpos_of_nonneg_of_nonpos (by omega) (by omega)
      exact ⟨by omega, by omega⟩
    · rw [decide_eq_false c, decide_eq_false d, if_neg c, if_neg d, if_neg (by decide)] at h
      have h0 : 0 ≤ a * b := Int.mul_nonneg (by omega) (by omega)
      exact ⟨by omega, by omega⟩

theorem ring_walk (a b : Int) (w : World) (wa : (Lit.int .i64 a).wf = true) (wb : (Lit.int .i64 b).wf = true) :
    Calls Try.prog 8 #[.int .i64 a, .int .i64 b] w fun e w' => e = .returned (.bool true) ∧ Below w.heap.size w w' := by
  have ha := in64_of_wf wa
  have hb := in64_of_wf wb
  have a1 := ha.1
  have a2 := ha.2
  have s1 := add_calls ha hb
  have s2 := add_calls hb ha
  have p1 := mul_calls ha hb
  have p2 := mul_calls hb ha
  rw [sum_comm] at s2
  rw [prod_comm] at p2
  have z : b = 0 → prod64 a b = (0, 0) := by
    intro h
    subst h
    have h0 : mag 0 = 0 := by unfold mag; simp
    unfold prod64 most
    rw [h0, Int.mul_zero, Int.mul_zero, if_pos (by split <;> omega), w64_id (by omega) (by omega)]
  have q : b ≠ 0 → mag a * mag b ≤ most a b → prod64 a b = (a * b, 0) ∧ (Int.tmod (a * b) b == 0) = true ∧ (wrap64 (Int.tdiv (a * b) b) == a) = true := by
    intro h hm
    have hr := prod_in hm
    refine ⟨by unfold prod64; rw [if_pos hm, w64_id hr.1 hr.2], by rw [Int.mul_tmod_left]; rfl, ?_⟩
    rw [Int.mul_tdiv_cancel _ h, w64_id a1 a2, beq_self_eq_true]
  have n : ¬ mag a * mag b ≤ most a b → prod64 a b = (0, 5) := by
    intro h
    unfold prod64
    rw [if_neg h]
  by_cases c : -9223372036854775808 ≤ a + b ∧ a + b ≤ 9223372036854775807
  · have e : sum64 a b = (a + b, 0) := by unfold sum64; rw [if_pos c]
    have c1 : (wrap64 (a + b - b) == a) = true := by rw [show a + b - b = a by omega, w64_id a1 a2, beq_self_eq_true]
    rw [e] at s1 s2
    by_cases hb0 : b = 0
    · rw [z hb0] at p1 p2
      subst hb0
      have c1 : (wrap64 (a + 0) == a) = true := by rw [show a + 0 = a by omega, w64_id a1 a2, beq_self_eq_true]
      exact ring00 20 a (a + 0) w ⟨begun_ring⟩ ⟨s1⟩ ⟨s2⟩ ⟨p1⟩ ⟨p2⟩ c1
    · by_cases hm : mag a * mag b ≤ most a b
      · obtain ⟨e1, e2, e3⟩ := q hb0 hm
        rw [e1] at p1 p2
        exact ring01 20 a b (a + b) (a * b) w ⟨begun_ring⟩ ⟨s1⟩ ⟨s2⟩ ⟨p1⟩ ⟨p2⟩ c1 hb0 (beq_eq_false_iff_ne.mpr hb0) (bne_iff_ne.mpr hb0) e2 e3
      · rw [n hm] at p1 p2
        exact ring02 20 a b (a + b) w ⟨begun_ring⟩ ⟨s1⟩ ⟨s2⟩ ⟨p1⟩ ⟨p2⟩ c1
  · have e : sum64 a b = (0, 5) := by unfold sum64; rw [if_neg c]
    rw [e] at s1 s2
    by_cases hb0 : b = 0
    · rw [z hb0] at p1 p2
      subst hb0
      exact ring10 20 a w ⟨begun_ring⟩ ⟨s1⟩ ⟨s2⟩ ⟨p1⟩ ⟨p2⟩
    · by_cases hm : mag a * mag b ≤ most a b
      · obtain ⟨e1, e2, e3⟩ := q hb0 hm
        rw [e1] at p1 p2
        exact ring11 20 a b (a * b) w ⟨begun_ring⟩ ⟨s1⟩ ⟨s2⟩ ⟨p1⟩ ⟨p2⟩ hb0 (beq_eq_false_iff_ne.mpr hb0) (bne_iff_ne.mpr hb0) e2 e3
      · rw [n hm] at p1 p2
        exact ring12 20 a b w ⟨begun_ring⟩ ⟨s1⟩ ⟨s2⟩ ⟨p1⟩ ⟨p2⟩

end Go.Proofs.Ytdklkeocmjofkaa.Pure

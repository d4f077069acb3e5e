/- StampTies joined: which ties there are, as the document has it, and that no two are alike: for all attempts the law's call returns true. No condition beyond the statement's own. -/
import Derived.Test.YtloonjdkiafafaaQAx4
import Derived.Test.YtloonjdkiafafaaFacts
namespace Go.Proofs.Ytloonjdkiafafaa.Pure
open Go.RowKit Go.Proofs.Ytloonjdkiafafaa.QA Go.Proofs.YtloonjdkiafafaaW.PrintWords Go.Proofs.YtloonjdkiafafaaW.PrintLast Go.Proofs.YtloonjdkiafafaaW.PrintMore Go.Proofs.Ytloonjdkiafafaa.Facts

theorem begun_ties : antipodelaw6_begun.f 5 = some true := by decide +kernel
theorem wraps_i64 (n : Int) (h₀ : 0 ≤ n) (h₁ : n < 2 ^ 63) : IntKind.i64.wrap n = n := by rw [IntKind.wrap_i64]; omega
/-- Is an attempt one that has a tie? -/
def TieOk (n l s a : Int) : Prop := 1 ≤ n ∧ n ≤ 9 ∧ 0 ≤ a ∧ a ≤ 15 ∧ 0 ≤ l ∧ l ≤ 1048575 ∧ 0 ≤ s ∧ s ≤ 16777215
instance (n l s a : Int) : Decidable (TieOk n l s a) := by unfold TieOk; infer_instance
def tie (n l s a : Int) : Int := n * 281474976710656 + l * 268435456 + s * 16 + a
theorem tie_calls (n l s a : Int) : stamp_Tie.f n l s a = some (if TieOk n l s a then (tie n l s a, 0) else (0, 1)) := by
  unfold stamp_Tie.f
  by_cases h : TieOk n l s a
  · rw [if_pos h]
    unfold TieOk at h
    rw [if_neg (by omega), if_neg (by omega), if_neg (by omega), if_neg (by omega), if_neg (by omega), if_neg (by omega), if_neg (by omega), if_neg (by omega),
      w64_id (x := n * 281474976710656) (by omega) (by omega), w64_id (x := l * 268435456) (by omega) (by omega), w64_id (x := s * 16) (by omega) (by omega)]
    have e1 : Go.bits .or .i64 (n * 281474976710656) (l * 268435456) = n * 281474976710656 + l * 268435456 :=
      bits_join .i64 63 (by decide) wraps_i64 48 _ _ (by omega) (by omega) (by omega) (by omega) (by omega) (by omega)
    have e2 : Go.bits .or .i64 (n * 281474976710656 + l * 268435456) (s * 16) = n * 281474976710656 + l * 268435456 + s * 16 :=
      bits_join .i64 63 (by decide) wraps_i64 28 _ _ (by omega) (by omega) (by omega) (by omega) (by omega) (by omega)
    have e3 : Go.bits .or .i64 (n * 281474976710656 + l * 268435456 + s * 16) a = n * 281474976710656 + l * 268435456 + s * 16 + a :=
      bits_join .i64 63 (by decide) wraps_i64 4 _ _ (by omega) (by omega) (by omega) (by omega) (by omega) (by omega)
    rw [e1, e2, e3]
    rfl
  · rw [if_neg h]
    unfold TieOk at h
    (repeat' split) <;> first | rfl | omega
theorem tie_ref (n l s a : Int) : antipoderef6_Tie.f n l s a = some (if TieOk n l s a then (tie n l s a, 0) else (0, 1)) := by
  unfold antipoderef6_Tie.f
  by_cases h : TieOk n l s a
  · rw [if_pos h]
    unfold TieOk at h
    rw [if_neg (by omega), if_neg (by omega), if_neg (by omega), if_neg (by omega), if_neg (by omega), if_neg (by omega), if_neg (by omega), if_neg (by omega),
      w64_id (x := n * 1048576) (by omega) (by omega), w64_id (x := n * 1048576 + l) (by omega) (by omega), w64_id (x := (n * 1048576 + l) * 16777216) (by omega) (by omega), w64_id (x := (n * 1048576 + l) * 16777216 + s) (by omega) (by omega), w64_id (x := ((n * 1048576 + l) * 16777216 + s) * 16) (by omega) (by omega), w64_id (by omega) (by omega)]
    have e : ((n * 1048576 + l) * 16777216 + s) * 16 + a = tie n l s a := by unfold tie; omega
    rw [e]
  · rw [if_neg h]
    unfold TieOk at h
    (repeat' split) <;> first | rfl | omega
theorem tie_inj {n l s a n' l' s' a' : Int} (h : TieOk n l s a) (h' : TieOk n' l' s' a') : (tie n l s a == tie n' l' s' a') = (n == n' && (l == l' && (s == s' && (a == a')))) := by
  unfold TieOk at h h'
  rw [Bool.eq_iff_iff]
  simp only [Bool.and_eq_true, beq_iff_eq]
  unfold tie
  constructor
  · intro e
    have h1 : n = n' := by omega
    have h2 : l = l' := by omega
    have h3 : s = s' := by omega
    exact ⟨h1, h2, h3, by omega⟩
  · rintro ⟨rfl, rfl, rfl, rfl⟩
    rfl
theorem ties_f (n l s a n' l' s' a' : Int) : antipodelaw6_StampTies.f 5 n l s a n' l' s' a' = some true := by
  unfold antipodelaw6_StampTies.f
  rw [begun_ties, tie_calls, tie_ref, tie_calls]
  simp only [Option.bind_some, if_true]
  by_cases h : TieOk n l s a
  · rw [if_pos h]
    by_cases h' : TieOk n' l' s' a'
    · rw [if_pos h', tie_inj h h']
      simp
    · rw [if_neg h']
      simp
  · rw [if_neg h]
    simp
theorem ties_walk (n l s a n' l' s' a' : Int) (w : World) :
    Calls Try.prog 3 #[.agg #[.int .i64 n, .int .i64 l, .int .i64 s, .int .i64 a], .agg #[.int .i64 n', .int .i64 l', .int .i64 s', .int .i64 a']] w fun e w' => e = .returned (.bool true) ∧ Below w.heap.size w w' :=
  antipodelaw6_StampTies.calls 5 n l s a n' l' s' a' true w ⟨rfl⟩ (ties_f n l s a n' l' s' a')
end Go.Proofs.Ytloonjdkiafafaa.Pure

/- The pure statement behind StampLater: of two clocks that read between a true time and it plus their offset, a limit taken behind a ripe one is greater. No condition beyond the statement's own. -/
import Derived.Test.YtloonjdkiafafaaPStampLaterx2
namespace Go.Proofs.Ytloonjdkiafafaa.Pure
open Go.RowKit Go.Proofs.Ytloonjdkiafafaa.PStampLater Go.Proofs.YtloonjdkiafafaaW.PrintWords Go.Proofs.YtloonjdkiafafaaW.PrintLast Go.Proofs.YtloonjdkiafafaaW.PrintMore

theorem begun_later : antipodelaw6_begun.f 5 = some true := by decide +kernel

theorem wrap_u64 {x : Int} (h0 : 0 ≤ x) (h1 : x < 18446744073709551616) : IntKind.u64.wrap x = x := by
  have h : IntKind.u64.wrap x = x % 18446744073709551616 := by simp [IntKind.wrap, IntKind.bits, IntKind.signed]
  rw [h]
  omega
theorem wrap_64 {x : Int} (h0 : -9223372036854775808 ≤ x) (h1 : x < 9223372036854775808) : wrap64 x = x := by
  unfold wrap64
  omega

theorem later_core (a0 a1 a2 a3 a4 : Int) (h : 0 ≤ a2 ∧ 0 ≤ a0 ∧ a0 ≤ a1 ∧ a1 ≤ 1099511627776 ∧ a2 ≤ 1099511627776 ∧ 0 ≤ a3 ∧ a3 ≤ a2 ∧ 0 ≤ a4 ∧ a4 ≤ a2) :
    antipodelaw6_StampLater.j0 5 a0 a1 a2 a3 a4 false = some true := by
  have e1 : mx 0 (mn (mx (wrap64 (a0 + a3)) 0) 1125899906842624) = a0 + a3 := by
    rw [wrap_64 (by omega) (by omega)]; unfold mx mn; omega
  have e2 : mx 0 (mn (mx (wrap64 (a1 + a4)) 0) 1125899906842624) = a1 + a4 := by
    rw [wrap_64 (by omega) (by omega)]; unfold mx mn; omega
  have e3 : wrap64 (a0 + a3 + 1) = a0 + a3 + 1 := wrap_64 (by omega) (by omega)
  have e4 : wrap64 (a0 + a3) = a0 + a3 := wrap_64 (by omega) (by omega)
  have e5 : IntKind.u64.wrap (IntKind.u64.wrap (IntKind.u64.wrap (a1 + a4) + IntKind.u64.wrap a2) + 1) = a1 + a4 + a2 + 1 := by
    rw [wrap_u64 (x := a1 + a4) (by omega) (by omega), wrap_u64 (x := a2) (by omega) (by omega), wrap_u64 (x := a1 + a4 + a2) (by omega) (by omega), wrap_u64 (by omega) (by omega)]
  have hl : stamp_Clock_Limit.f 4 (a1 + a4) a2 = some (a1 + a4 + a2 + 1, 0) := by
    unfold stamp_Clock_Limit.f
    rw [if_neg (by omega), decide_eq_false (by omega)]
    simp only [stamp_Clock_Limit.j0]
    rw [if_neg (by decide), e5, if_neg (by omega), wrap_64 (by omega) (by omega)]
  simp only [antipodelaw6_StampLater.j0, stamp_Clock_Read.f, Option.bind_some, e1, e2]
  rw [if_neg (by decide), hl]
  simp only [Option.bind_some, stamp_Clock_Ripe.f, e4, e3]
  rw [if_pos trivial, decide_eq_true (by omega), if_pos rfl, decide_eq_false (by omega), if_neg (by decide), decide_eq_true (by omega)]

theorem StampLater : antipodelaw6_StampLater.Pure := by
  intro a0 a1 a2 a3 a4 _ _ _ _ _
  refine ⟨5, ?_⟩
  unfold antipodelaw6_StampLater.f
  rw [begun_later]
  have hj : antipodelaw6_StampLater.j0 5 a0 a1 a2 a3 a4 true = some true := by simp [antipodelaw6_StampLater.j0]
  simp only [Option.bind_some, if_true, hj]
  by_cases h : a2 < 0
  · rw [if_pos h]
  rw [if_neg h]
  by_cases h1 : a0 < 0
  · rw [if_pos h1]
  rw [if_neg h1]
  by_cases h2 : a1 < a0
  · rw [if_pos h2]
  rw [if_neg h2]
  by_cases h3 : a1 > 1099511627776
  · rw [if_pos h3]
  rw [if_neg h3]
  by_cases h4 : a2 > 1099511627776
  · rw [if_pos h4]
  rw [if_neg h4]
  by_cases h5 : a3 < 0
  · rw [if_pos h5]
  rw [if_neg h5]
  by_cases h6 : a3 > a2
  · rw [if_pos h6]
  rw [if_neg h6]
  by_cases h7 : a4 < 0
  · rw [if_pos h7]
  rw [if_neg h7]
  by_cases h8 : a4 > a2
  · rw [decide_eq_true h8]; exact hj
  rw [decide_eq_false h8]
  exact later_core a0 a1 a2 a3 a4 (by omega)

end Go.Proofs.Ytloonjdkiafafaa.Pure

/- The pure statement behind StampClocks: the program's clock and the document's read alike and have one limit. No condition beyond the statement's own. -/
import Derived.Test.YtloonjdkiafafaaPStampClocksx3
namespace Go.Proofs.Ytloonjdkiafafaa.Pure
open Go.RowKit Go.Proofs.Ytloonjdkiafafaa.PStampClocks Go.Proofs.YtloonjdkiafafaaW.PrintWords Go.Proofs.YtloonjdkiafafaaW.PrintLast Go.Proofs.YtloonjdkiafafaaW.PrintMore

theorem begun_clocks : antipodelaw6_begun.f 5 = some true := by decide +kernel
theorem begun_more (k : Nat) (hk : 5 ≤ k) : antipodelaw6_begun.f k = some true := by
  induction k with
  | zero => omega
  | succ k ih =>
    by_cases h : k + 1 = 5
    · rw [h]; exact begun_clocks
    · exact antipodelaw6_begun.mono k _ (ih (by omega))

theorem wrap_u64c {x : Int} (h0 : 0 ≤ x) (h1 : x < 18446744073709551616) : IntKind.u64.wrap x = x := by
  have h : IntKind.u64.wrap x = x % 18446744073709551616 := by simp [IntKind.wrap, IntKind.bits, IntKind.signed]
  rw [h]
  omega
theorem wrap_64c {x : Int} (h0 : -9223372036854775808 ≤ x) (h1 : x < 9223372036854775808) : wrap64 x = x := by
  unfold wrap64
  omega
def In64 (x : Int) : Prop := -9223372036854775808 ≤ x ∧ x < 9223372036854775808
theorem in64_of_wf {x : Int} (h : (Lit.int .i64 x).wf = true) : In64 x := by
  have h2 := h
  simp [Lit.wf, IntKind.min, IntKind.max, IntKind.signed, IntKind.bits] at h2
  unfold In64
  omega

theorem limit_same (k : Nat) (w o : Int) (hw : In64 w) (ho : In64 o) : ∃ r, stamp_Clock_Limit.f (k + 1) w o = some r ∧ antipoderef6_Clock_Limit.f w o = some r := by
  unfold In64 at hw ho
  unfold stamp_Clock_Limit.f antipoderef6_Clock_Limit.f
  simp only [stamp_Clock_Limit.j0]
  by_cases h1 : w < 0
  · rw [if_pos h1, if_pos h1]; exact ⟨_, rfl, rfl⟩
  rw [if_neg h1, if_neg h1]
  by_cases h2 : o < 0
  · rw [if_pos h2, decide_eq_true h2]; exact ⟨_, rfl, rfl⟩
  rw [if_neg h2, decide_eq_false h2]
  have e5 : IntKind.u64.wrap (IntKind.u64.wrap (IntKind.u64.wrap w + IntKind.u64.wrap o) + 1) = w + o + 1 := by
    rw [wrap_u64c (x := w) (by omega) (by omega), wrap_u64c (x := o) (by omega) (by omega), wrap_u64c (x := w + o) (by omega) (by omega), wrap_u64c (by omega) (by omega)]
  rw [if_neg (by decide), e5]
  by_cases h3 : w + o + 1 > 4611686018427387904
  · rw [if_pos h3]
    by_cases h4 : w ≥ 4611686018427387904
    · rw [if_pos h4]; exact ⟨_, rfl, rfl⟩
    · rw [if_neg h4, wrap_64c (by omega) (by omega), if_pos (by omega)]; exact ⟨_, rfl, rfl⟩
  · rw [if_neg h3, if_neg (by omega), wrap_64c (x := 4611686018427387903 - w) (by omega) (by omega), if_neg (by omega), wrap_64c (x := w + o) (by omega) (by omega), wrap_64c (by omega) (by omega)]
    exact ⟨_, rfl, rfl⟩

theorem clocks_run (l : List Int) (at_ o : Int) (ho : In64 o) (hl : l.length ≤ 100) (d : Nat) :
    ∀ (k : Nat) (i w : Int), 0 ≤ i → (l.length : Int) + 1 - i = d → 2 * d + 2 < k → In64 w → antipodelaw6_StampClocks.l0 k l at_ i w o w o = some true := by
  induction d with
  | zero =>
    intro k i w h0 hd hk hw
    obtain ⟨k, rfl⟩ : ∃ m, k = m + 1 := ⟨k - 1, by omega⟩
    simp only [antipodelaw6_StampClocks.l0]
    rw [if_neg (by omega)]
  | succ d ih =>
    intro k i w h0 hd hk hw
    obtain ⟨k, rfl⟩ : ∃ m, k = m + 1 + 1 + 1 := ⟨k - 3, by omega⟩
    obtain ⟨r, hr1, hr2⟩ := limit_same (k + 1) w o hw ho
    simp only [antipodelaw6_StampClocks.l0]
    rw [if_pos (by omega), hr1, hr2]
    simp only [Option.bind_some, if_true, stamp_Clock_Ripe.f, bne_self_eq_false]
    have hwi : wrap64 (i + 1) = i + 1 := wrap_64c (by omega) (by omega)
    simp only [antipodelaw6_StampClocks.j1]
    rw [if_neg (by decide), hwi]
    by_cases h : i < (l.length : Int)
    · rw [if_pos h, if_pos h0]
      have hm : In64 (mx w (mn (mx (rd l i) 0) 1125899906842624)) ∧ w ≤ mx w (mn (mx (rd l i) 0) 1125899906842624) := by
        unfold In64 at hw ⊢; unfold mx mn; omega
      simp only [stamp_Clock_Read.f, antipoderef6_Clock_Read.f, Option.bind_some]
      rw [if_neg (by omega)]
      exact ih _ _ _ (by omega) (by omega) (by omega) hm.1
    · rw [if_neg h]
      exact ih _ _ _ (by omega) (by omega) (by omega) hw

theorem StampClocks : antipodelaw6_StampClocks.Pure := by
  intro a0 a1 l2 a3 h0 h1 _ _ _ _
  refine ⟨500, ?_⟩
  unfold antipodelaw6_StampClocks.f
  rw [begun_more 500 (by omega)]
  simp only [Option.bind_some, if_true]
  by_cases h : (l2.length : Int) > 100
  · rw [if_pos h]
  rw [if_neg h]
  exact clocks_run l2 a3 a1 (in64_of_wf h1) (by omega) (l2.length + 1) 500 0 a0 (by omega) (by omega) (by omega) (in64_of_wf h0)

end Go.Proofs.Ytloonjdkiafafaa.Pure

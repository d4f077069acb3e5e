/- What the document's own Var, Text, TakeVar, TakeText and Get, as printed, come to: the same plain codec as the program's. Under the bounds that each states. -/
import Derived.Test.YtloonjdkiafafaaQAx
import Derived.Test.YtloonjdkiafafaaQASpec
import Derived.Test.YtloonjdkiafafaaQAPutSpec
namespace Go.Proofs.Ytloonjdkiafafaa.QARefSpec
open Go.RowKit Go.Proofs.Ytloonjdkiafafaa.QA Go.Proofs.YtloonjdkiafafaaW.PrintWords Go.Proofs.YtloonjdkiafafaaW.PrintLast Go.Proofs.YtloonjdkiafafaaW.PrintMore Go.Proofs.Ytloonjdkiafafaa.Facts Go.Proofs.Ytloonjdkiafafaa.Codec Go.Proofs.Ytloonjdkiafafaa.QASpec Go.Proofs.Ytloonjdkiafafaa.QAPutSpec

theorem unit_step {c x u : Int} (hc : 0 ≤ c ∧ c < 256) (hx : 0 ≤ x) (i : Nat) (hi : i ≤ 9) (hu : u = 128 ^ i) (hb : x < 128 ^ i) (h9 : i = 9 → c ≤ 1) :
    IntKind.u64.wrap (x + IntKind.u64.wrap (IntKind.u64.wrap (Int.tmod c 128) * u)) = x + c % 128 * 128 ^ i := by
  subst hu
  rw [Int.tmod_eq_emod_of_nonneg hc.1, u64w_id (x := c % 128) (by omega) (by omega)]
  have hp : (0 : Int) < 128 ^ i := Int.pow_pos (by omega)
  have h0 : 0 ≤ c % 128 * 128 ^ i := Int.mul_nonneg (by omega) (by omega)
  have hle : x + c % 128 * 128 ^ i < 18446744073709551616 := by
    by_cases h : i = 9
    · subst h
      have h3 : c % 128 * 128 ^ 9 ≤ 1 * 128 ^ 9 := Int.mul_le_mul_of_nonneg_right (by omega) (by omega)
      have h4 : (128 : Int) ^ 9 = 9223372036854775808 := by decide
      omega
    · have h3 : c % 128 * 128 ^ i ≤ 127 * 128 ^ i := Int.mul_le_mul_of_nonneg_right (by omega) (by omega)
      have h5 : (128 : Int) ^ i ≤ 128 ^ 8 := by
        have := Nat.pow_le_pow_right (show 1 ≤ 128 by omega) (show i ≤ 8 by omega)
        exact_mod_cast this
      have h4 : (128 : Int) ^ 8 = 72057594037927936 := by decide
      omega
  rw [u64w_id (x := c % 128 * 128 ^ i) (by omega) (by omega), u64w_id (by omega) (by omega)]
theorem refGet_loop (l : List Int) (hb : Bytes l) (hl : l.length < 140737488355328) (a n : Nat) (hn : n ≤ 8) (han : a + n ≤ l.length) (d : Nat) : ∀ (k i : Nat) (v : Int), i + d = n → d < k → v = gv ((l.drop a).take i) →
    antipoderef1_Get.l0 k l (a : Int) (n : Int) v (i : Int) = some (gv ((l.drop a).take n), 0) := by
  induction d with
  | zero =>
    intro k i v hi hk hv
    obtain ⟨k, rfl⟩ : ∃ m, k = m + 1 := ⟨k - 1, by omega⟩
    simp only [antipoderef1_Get.l0]
    rw [if_neg (by omega), hv, show i = n by omega]
  | succ d ih =>
    intro k i v hi hk hv
    obtain ⟨k, rfl⟩ : ∃ m, k = m + 1 := ⟨k - 1, by omega⟩
    have hlt : a + i < l.length := by omega
    have hc := hb l[a + i] (List.getElem_mem hlt)
    have hg := gv_range ((l.drop a).take i) (fun c h => hb c (List.mem_of_mem_drop (List.mem_of_mem_take h)))
    rw [← hv, List.length_take, Nat.min_eq_left (by rw [List.length_drop]; omega)] at hg
    have hp : (256 : Int) ^ i ≤ 72057594037927936 := by
      have h2 : 256 ^ i ≤ 256 ^ 7 := Nat.pow_le_pow_right (by omega) (by omega)
      have h3 : ((256 ^ i : Nat) : Int) ≤ ((72057594037927936 : Nat) : Int) := Int.ofNat_le.2 h2
      rw [Int.natCast_pow] at h3
      exact h3
    simp only [antipoderef1_Get.l0]
    rw [w64_id (x := (a : Int) + (i : Int)) (by omega) (by omega), show (a : Int) + (i : Int) = ((a + i : Nat) : Int) by omega]
    rw [if_pos (by omega), if_pos (by omega), if_pos (by omega), rd_some hlt, u64w_id (x := v * 256) (by omega) (by omega), u64w_id (x := l[a + i]) (by omega) (by omega), u64w_id (by omega) (by omega), w64_id (by omega) (by omega)]
    refine ih k (i + 1) _ (by omega) (by omega) ?_
    rw [List.take_succ_eq_append_getElem (by rw [List.length_drop]; omega)]
    unfold gv at hv ⊢
    rw [List.foldl_append, ← hv, List.getElem_drop]
    rfl
theorem refGet_calls (k : Nat) {l : List Int} {a n : Int} (hk : 14 ≤ k) (hb : Bytes l) (hl : l.length < 140737488355328) : antipoderef1_Get.f k l a n = some (getS l a n) := by
  obtain ⟨k, rfl⟩ : ∃ m, k = m + 1 + 1 := ⟨k - 2, by omega⟩
  unfold antipoderef1_Get.f getS
  simp only [antipoderef1_Get.j0]
  by_cases c1 : n < 1
  · rw [if_pos c1, if_pos trivial, if_pos (.inl c1)]
  by_cases c2 : n > 8
  · rw [if_neg c1, if_pos c2, if_pos trivial, if_pos (.inr (.inl c2))]
  by_cases c3 : a < 0
  · rw [if_neg c1, if_neg c2, decide_eq_true c3, if_pos rfl, if_pos (.inr (.inr c3))]
  rw [if_neg c1, if_neg c2, decide_eq_false c3, if_neg (by decide), if_neg (show ¬ (n < 1 ∨ n > 8 ∨ a < 0) by omega)]
  simp only [antipoderef1_Get.j1]
  by_cases c4 : a > (l.length : Int)
  · rw [if_pos c4, if_pos trivial, if_pos (by omega)]
  rw [if_neg c4, w64_id (x := (l.length : Int) - a) (by omega) (by omega)]
  by_cases c5 : (l.length : Int) - a < n
  · rw [decide_eq_true c5, if_pos rfl, if_pos (by omega)]
  rw [decide_eq_false c5, if_neg (by decide), if_neg (by omega)]
  obtain ⟨x, rfl⟩ := Int.eq_ofNat_of_zero_le (show 0 ≤ a by omega)
  obtain ⟨m, rfl⟩ := Int.eq_ofNat_of_zero_le (show 0 ≤ n by omega)
  have h := refGet_loop l hb hl x m (by omega) (by omega) m k 0 0 (by omega) (by omega) (by simp [gv])
  rw [show ((0 : Nat) : Int) = 0 from rfl] at h
  rw [h, show ((x : Int) + (m : Int)).toNat = x + m by omega, Int.toNat_natCast, List.drop_take, Nat.add_sub_cancel_left]
end Go.Proofs.Ytloonjdkiafafaa.QARefSpec

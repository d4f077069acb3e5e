/- What the printed functions of package bits come to: room, Var, Text, TakeVar, TakeText, said by the plain codec. Each under the bounds that it states. -/
import Derived.Test.YtloonjdkiafafaaQAx
import Derived.Test.YtloonjdkiafafaaCodec
namespace Go.Proofs.Ytloonjdkiafafaa.QASpec
open Go.RowKit Go.Proofs.Ytloonjdkiafafaa.QA Go.Proofs.YtloonjdkiafafaaW.PrintWords Go.Proofs.YtloonjdkiafafaaW.PrintLast Go.Proofs.YtloonjdkiafafaaW.PrintMore Go.Proofs.Ytloonjdkiafafaa.Facts Go.Proofs.Ytloonjdkiafafaa.Codec

theorem byte_low {v : Int} : (v % 256) % 128 = v % 128 := by omega
theorem pow_128 (i : Nat) : (2 : Int) ^ (7 * i) = 128 ^ i := by
  rw [Int.pow_mul]
  rfl
theorem shl_step {c : Int} (i : Nat) (hi : i ≤ 9) (hc : 0 ≤ c ∧ c < 256) (h9 : i = 9 → c ≤ 1) :
    shl .u64 (IntKind.u64.wrap (Go.bits .andNot .u8 c 128)) (IntKind.u64.wrap (wrap64 (7 * (i : Int)))) = c % 128 * 128 ^ i := by
  rw [andNot_bit7 hc, u64w_id (x := c % 128) (by omega) (by omega), w64_id (by omega) (by omega), u64w_id (by omega) (by omega)]
  unfold shl
  have e : min ((7 * (i : Int)).toNat) IntKind.u64.bits = 7 * i := by
    rw [show IntKind.u64.bits = 64 from rfl]
    omega
  rw [e, pow_128]
  have hp : (0 : Int) < 128 ^ i := Int.pow_pos (by omega)
  have h0 : 0 ≤ c % 128 * 128 ^ i := Int.mul_nonneg (by omega) (by omega)
  have h1 : c % 128 * 128 ^ i < 18446744073709551616 := by
    have e9 : (128 : Int) ^ 9 = 9223372036854775808 := by decide
    by_cases h : i = 9
    · subst h
      have := h9 rfl
      have h3 : c % 128 * 128 ^ 9 ≤ 1 * 128 ^ 9 := Int.mul_le_mul_of_nonneg_right (by omega) (by omega)
      omega
    · have h2 : (128 : Int) ^ i ≤ 128 ^ 8 := by
        have := Nat.pow_le_pow_right (show 1 ≤ 128 by omega) (show i ≤ 8 by omega)
        exact_mod_cast this
      have e8 : (128 : Int) ^ 8 = 72057594037927936 := by decide
      have h3 : c % 128 * 128 ^ i ≤ 127 * 128 ^ i := Int.mul_le_mul_of_nonneg_right (by omega) (by omega)
      omega
  exact u64w_id h0 h1
theorem or_step {acc c : Int} (i : Nat) (hi : i ≤ 9) (hc : 0 ≤ c ∧ c < 256) (h9 : i = 9 → c ≤ 1) (ha : 0 ≤ acc) (hb : acc < 128 ^ i) :
    Go.bits .or .u64 acc (shl .u64 (IntKind.u64.wrap (Go.bits .andNot .u8 c 128)) (IntKind.u64.wrap (wrap64 (7 * (i : Int))))) = acc + c % 128 * 128 ^ i := by
  rw [shl_step i hi hc h9]
  have hp : (0 : Int) < 128 ^ i := Int.pow_pos (by omega)
  have h0 : 0 ≤ c % 128 * 128 ^ i := Int.mul_nonneg (by omega) (by omega)
  have e9 : (128 : Int) ^ 9 = 9223372036854775808 := by decide
  have h2 : (128 : Int) ^ i ≤ 128 ^ 9 := by
    have := Nat.pow_le_pow_right (show 1 ≤ 128 by omega) hi
    exact_mod_cast this
  have h1 : c % 128 * 128 ^ i < 18446744073709551616 := by
    by_cases h : i = 9
    · subst h
      have := h9 rfl
      have h3 : c % 128 * 128 ^ 9 ≤ 1 * 128 ^ 9 := Int.mul_le_mul_of_nonneg_right (by omega) (by omega)
      omega
    · have h2 : (128 : Int) ^ i ≤ 128 ^ 8 := by
        have := Nat.pow_le_pow_right (show 1 ≤ 128 by omega) (show i ≤ 8 by omega)
        exact_mod_cast this
      have e8 : (128 : Int) ^ 8 = 72057594037927936 := by decide
      have h3 : c % 128 * 128 ^ i ≤ 127 * 128 ^ i := Int.mul_le_mul_of_nonneg_right (by omega) (by omega)
      omega
  exact or_apart (7 * i) ⟨ha, by omega⟩ ⟨h0, h1⟩ (by rw [pow_128]; exact hb) (by rw [pow_128]; exact Int.mul_emod_left _ _)

theorem shift_pos (i : Nat) (hi : i ≤ 9) : 0 ≤ IntKind.u64.wrap (wrap64 (7 * (i : Int))) := by
  rw [w64_id (by omega) (by omega), u64w_id (by omega) (by omega)]
  omega
theorem rd_drop {l : List Int} {i : Nat} {c : Int} {t : List Int} (h : l.drop i = c :: t) : rd l (i : Int) = c ∧ i < l.length ∧ l.drop (i + 1) = t := by
  have hl : i < l.length := by
    have := congrArg List.length h
    simp only [List.length_drop, List.length_cons] at this
    omega
  rw [List.drop_eq_getElem_cons hl] at h
  injection h with h1 h2
  refine ⟨?_, hl, h2⟩
  unfold rd
  rw [Int.toNat_natCast, List.getD_eq_getElem?_getD, List.getElem?_eq_getElem hl]
  exact h1
end Go.Proofs.Ytloonjdkiafafaa.QASpec

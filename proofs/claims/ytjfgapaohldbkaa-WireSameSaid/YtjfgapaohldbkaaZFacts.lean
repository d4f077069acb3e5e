/- Facts on Go's bit operations over whole numbers, without any program: and, or, xor, shifts, wraps. No condition beyond what each says. -/
import Derived.RowKit
import Derived.Laws.BitsLemmas
import Derived.Laws.BitsAllLaws
import Derived.Laws.Bits64
namespace Go.Proofs.Ytjfgapaohldbkaa.Facts
open Go.RowKit
theorem bind_to {α β : Type} {x : Option α} {a : α} {f : α → Option β} {r : Option β} (h : x = some a) (h2 : f a = r) : x.bind f = r := by rw [h]; exact h2
theorem u64w (x : Int) : IntKind.u64.wrap x = x % 18446744073709551616 := IntKind.wrap_u64 x
theorem i64w (x : Int) : IntKind.i64.wrap x = wrap64 x := IntKind.wrap_i64 x
theorem u64w_id {x : Int} (h0 : 0 ≤ x) (h1 : x < 18446744073709551616) : IntKind.u64.wrap x = x := by rw [u64w]; omega
theorem w64_id {x : Int} (h0 : -9223372036854775808 ≤ x) (h1 : x < 9223372036854775808) : wrap64 x = x := by unfold wrap64; omega
def In64 (x : Int) : Prop := -9223372036854775808 ≤ x ∧ x < 9223372036854775808
def U64 (x : Int) : Prop := 0 ≤ x ∧ x < 18446744073709551616
def U8 (x : Int) : Prop := 0 ≤ x ∧ x < 256
theorem in64_of_wf {x : Int} (h : (Lit.int .i64 x).wf = true) : In64 x := by
 simp [Lit.wf, IntKind.min, IntKind.max, IntKind.signed, IntKind.bits] at h
 unfold In64
 omega
theorem nat_xor_ones (i a : Nat) (h : a < 2 ^ i) : a ^^^ (2 ^ i - 1) = 2 ^ i - 1 - a := by
 apply Nat.eq_of_testBit_eq
 intro j
 rw [Nat.testBit_xor, Nat.testBit_two_pow_sub_one, show 2 ^ i - 1 - a = 2 ^ i - (a + 1) by omega, Nat.testBit_two_pow_sub_succ h]
 by_cases hj : j < i
 ·simp [hj]
 ·simp [hj]
  exact Nat.testBit_lt_two_pow (Nat.lt_of_lt_of_le h (Nat.pow_le_pow_right (by omega) (by omega)))
theorem xor_zero {x : Int} (h : U64 x) : Go.bits .xor .u64 x 0 = x := by
 obtain ⟨a, rfl⟩ := Int.eq_ofNat_of_zero_le h.1
 have := h.2
 rw [show (0 : Int) = ((0 : Nat) : Int) from rfl, u64_xor_nat a 0 (by omega) (by omega)]
 simp
theorem xor_ones {x : Int} (h : U64 x) : Go.bits .xor .u64 x 18446744073709551615 = 18446744073709551615 - x := by
 obtain ⟨a, rfl⟩ := Int.eq_ofNat_of_zero_le h.1
 have h2 := h.2
 rw [show (18446744073709551615 : Int) = ((18446744073709551615 : Nat) : Int) from rfl, u64_xor_nat a _ (by omega) (by omega)]
 have := nat_xor_ones 64 a (by omega)
 rw [show (2 : Nat) ^ 64 - 1 = 18446744073709551615 from rfl] at this
 rw [this]
 omega
theorem nat_xor_top (i a : Nat) (h : a < 2 ^ i) : a ^^^ 2 ^ i = a + 2 ^ i := by
 have h1 : a ||| 2 ^ i = a + 2 ^ i := by
  have := Nat.two_pow_add_eq_or_of_lt h 1
  rw [Nat.mul_one] at this
  rw [Nat.or_comm]
  omega
 rw [← h1]
 apply Nat.eq_of_testBit_eq
 intro j
 rw [Nat.testBit_xor, Nat.testBit_or, Nat.testBit_two_pow]
 by_cases hj : i = j
 ·subst hj
  rw [Nat.testBit_lt_two_pow h]; simp
 ·simp [hj]
theorem xor_sign {x : Int} (h : U64 x) : Go.bits .xor .u64 x 9223372036854775808 = if x < 9223372036854775808 then x + 9223372036854775808 else x - 9223372036854775808 := by
 obtain ⟨a, rfl⟩ := Int.eq_ofNat_of_zero_le h.1
 have h2 := h.2
 rw [show (9223372036854775808 : Int) = ((9223372036854775808 : Nat) : Int) from rfl, u64_xor_nat a _ (by omega) (by omega)]
 by_cases hl : a < 9223372036854775808
 ·have := nat_xor_top 63 a (by omega)
  rw [show (2 : Nat) ^ 63 = 9223372036854775808 from rfl] at this
  rw [this, if_pos (by omega)]
  omega
 ·have := nat_xor_top 63 (a - 9223372036854775808) (by omega)
  rw [show (2 : Nat) ^ 63 = 9223372036854775808 from rfl, show a - 9223372036854775808 + 9223372036854775808 = a by omega] at this
  rw [← this, Nat.xor_assoc, Nat.xor_self, if_neg (by omega)]
  simp
  omega
theorem and_one {x : Int} (h : U64 x) : Go.bits .and .u64 x 1 = x % 2 := by
 obtain ⟨a, rfl⟩ := Int.eq_ofNat_of_zero_le h.1
 have := h.2
 rw [show (1 : Int) = ((1 : Nat) : Int) from rfl, u64_and_nat a 1 (by omega) (by omega), nat_mask1]
 omega
theorem or_bit7 {x : Int} (h : U8 x) : Go.bits .or .u8 x 128 = x % 128 + 128 := by
 obtain ⟨a, rfl⟩ := Int.eq_ofNat_of_zero_le h.1
 have h2 := h.2
 have hd : ∀ b : Fin 256, (b.val ||| 128) = b.val % 128 + 128 := by decide +kernel
 rw [show (128 : Int) = ((128 : Nat) : Int) from rfl, u8_or_nat a _ (by omega) (by omega)]
 have := hd ⟨a, by omega⟩
 simp only at this
 rw [this]
 omega
theorem andNot_bit7 {x : Int} (h : U8 x) : Go.bits .andNot .u8 x 128 = x % 128 := by
 obtain ⟨a, rfl⟩ := Int.eq_ofNat_of_zero_le h.1
 have h2 := h.2
 have hd : ∀ b : Fin 256, (b.val &&& (255 - 128)) = b.val % 128 := by decide +kernel
 rw [show (128 : Int) = ((128 : Nat) : Int) from rfl, u8_andNot_nat a _ (by omega) (by omega)]
 have := hd ⟨a, by omega⟩
 simp only at this
 rw [this]
 omega
theorem or_apart {x y : Int} (i : Nat) (hx : U64 x) (hy : U64 y) (hl : x < 2 ^ i) (hh : y % 2 ^ i = 0) : Go.bits .or .u64 x y = x + y := by
 obtain ⟨a, rfl⟩ := Int.eq_ofNat_of_zero_le hx.1
 obtain ⟨b, rfl⟩ := Int.eq_ofNat_of_zero_le hy.1
 have h1 := hx.2
 have h2 := hy.2
 rw [u64_or_nat a b (by omega) (by omega), Nat.or_comm, nat_join i b a (by exact_mod_cast hh) (by exact_mod_cast hl)]
 omega
theorem xor_i64_bv (x y : Int) : Go.bits .xor .i64 x y = IntKind.i64.wrap (((BitVec.ofInt 64 x ^^^ BitVec.ofInt 64 y).toNat : Nat) : Int) := rfl
theorem xor_i64_zero {x : Int} (h : In64 x) : Go.bits .xor .i64 x 0 = x := by
 have h1 := h.1
 have h2 := h.2
 have e : (BitVec.ofInt 64 x ^^^ BitVec.ofInt 64 0).toNat = (x % 18446744073709551616).toNat := by simp [BitVec.toNat_ofInt]
 rw [xor_i64_bv, e, i64w]
 unfold wrap64
 omega
theorem xor_i64_ones {x : Int} (h : In64 x) : Go.bits .xor .i64 x (-1) = -x - 1 := by
 have h1 := h.1
 have h2 := h.2
 have e : (BitVec.ofInt 64 x ^^^ BitVec.ofInt 64 (-1)).toNat = 18446744073709551615 - (x % 18446744073709551616).toNat := by
  rw [BitVec.toNat_xor, BitVec.toNat_ofInt, BitVec.toNat_ofInt]
  exact nat_xor_ones 64 (x % 18446744073709551616).toNat (by omega)
 rw [xor_i64_bv, e, i64w]
 unfold wrap64
 omega
end Go.Proofs.Ytjfgapaohldbkaa.Facts


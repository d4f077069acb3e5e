/- What sums and products of the program and of the document come to. Each under the bounds that it states. -/
import Derived.Test.YtdklkeocmjofkaaQAx2
import Derived.Test.YtdklkeocmjofkaaFacts
import Derived.Laws.MathBits
namespace Go.Proofs.Ytdklkeocmjofkaa.Pure
open Go.RowKit Go.Proofs.Ytdklkeocmjofkaa.QA Go.Proofs.YtdklkeocmjofkaaW.PrintWords Go.Proofs.YtdklkeocmjofkaaW.PrintLast Go.Proofs.YtdklkeocmjofkaaW.PrintMore Go.Proofs.Ytdklkeocmjofkaa.Facts

/-- A sum, if it is an int64. -/
def sum64 (a b : Int) : Int × Int := if -9223372036854775808 ≤ a + b ∧ a + b ≤ 9223372036854775807 then (a + b, 0) else (0, 5)
theorem add_calls {a b : Int} (ha : In64 a) (hb : In64 b) : bits_Add.f a b = some (sum64 a b) := by
  have h1 := ha.1
  have h2 := ha.2
  have h3 := hb.1
  have h4 := hb.2
  unfold bits_Add.f sum64
  by_cases c : -9223372036854775808 ≤ a + b ∧ a + b ≤ 9223372036854775807
  · rw [if_pos c, w64_id (x := a + b) (by omega) (by omega)]
    by_cases d : b > 0
    · rw [if_pos d, w64_id (x := 9223372036854775807 - b) (by omega) (by omega), if_neg (by omega), if_neg (by omega)]
    · rw [if_neg d]
      by_cases e : b < 0
      · rw [if_pos e, w64_id (x := -9223372036854775808 - b) (by omega) (by omega), if_neg (by omega)]
      · rw [if_neg e]
  · rw [if_neg c]
    by_cases d : b > 0
    · rw [if_pos d, w64_id (x := 9223372036854775807 - b) (by omega) (by omega), if_pos (by omega)]
    · rw [if_neg d, if_pos (by omega), w64_id (x := -9223372036854775808 - b) (by omega) (by omega), if_pos (by omega)]
theorem add_ref {a b : Int} (ha : In64 a) (hb : In64 b) : antipoderef1_Add.f a b = some (sum64 a b) := by
  have h1 := ha.1
  have h2 := ha.2
  have h3 := hb.1
  have h4 := hb.2
  unfold antipoderef1_Add.f sum64
  by_cases c : -9223372036854775808 ≤ a + b ∧ a + b ≤ 9223372036854775807
  · rw [if_pos c, w64_id (x := a + b) (by omega) (by omega)]
    by_cases d : a > 0
    · rw [if_pos d, w64_id (x := 9223372036854775807 - a) (by omega) (by omega), if_neg (by omega), if_neg (by omega)]
    · rw [if_neg d]
      by_cases e : a < 0
      · rw [if_pos e, w64_id (x := -9223372036854775808 - a) (by omega) (by omega), if_neg (by omega)]
      · rw [if_neg e]
  · rw [if_neg c]
    by_cases d : a > 0
    · rw [if_pos d, w64_id (x := 9223372036854775807 - a) (by omega) (by omega), if_pos (by omega)]
    · rw [if_neg d, if_pos (by omega), w64_id (x := -9223372036854775808 - a) (by omega) (by omega), if_pos (by omega)]

/-- A number without its sign. -/
def mag (a : Int) : Int := if a < 0 then -a else a
theorem size_calls {a : Int} (h : In64 a) : bits_size.f a = some (mag a) := by
  have h1 := h.1
  have h2 := h.2
  unfold bits_size.f mag
  by_cases c : a < 0
  · rw [if_pos c, if_pos c]
    congr 1
    rw [u64w a, u64w]
    omega
  · rw [if_neg c, if_neg c]
    congr 1
    rw [u64w_id (by omega) (by omega)]
theorem size_ref {a : Int} (h : In64 a) : antipoderef1_size.f a = some (mag a) := by
  have h1 := h.1
  have h2 := h.2
  unfold antipoderef1_size.f mag
  by_cases c : a < 0
  · rw [if_pos c, if_pos c]
    congr 1
    rw [w64_id (x := a + 1) (by omega) (by omega), w64_id (x := -(a + 1)) (by omega) (by omega), u64w_id (x := -(a + 1)) (by omega) (by omega), u64w_id (by omega) (by omega)]
    omega
  · rw [if_neg c, if_neg c]
    congr 1
    rw [u64w_id (by omega) (by omega)]
theorem mag_bound {a : Int} (h : In64 a) : 0 ≤ mag a ∧ mag a ≤ 9223372036854775808 := by
  have h1 := h.1
  have h2 := h.2
  unfold mag
  split <;> omega

theorem mul64_calls {x y : Int} (hx : U64 x) (hy : U64 y) : bits_Mul64.f x y = some (x * y / 18446744073709551616, (x * y) % 18446744073709551616) := by
  have h := mul64_arith x y hx.1 hx.2 hy.1 hy.2
  unfold bits_Mul64.f
  have e1 : U64 (IntKind.u64.wrap (IntKind.u64.wrap (x / 4294967296 * (y % 4294967296)) + IntKind.u64.wrap (x % 4294967296 * (y % 4294967296)) / 4294967296)) := by
    rw [u64w]; exact ⟨by omega, by omega⟩
  rw [and_low hx, and_low hy, and_low e1]
  simp only [u64w]
  rw [h]

/-- The most that a product may be, by its sign. -/
def most (a b : Int) : Int := if ((decide (a < 0)) != (decide (b < 0))) = true then 9223372036854775808 else 9223372036854775807
def prod64 (a b : Int) : Int × Int := if mag a * mag b ≤ most a b then (wrap64 (a * b), 0) else (0, 5)

theorem mul_calls {a b : Int} (ha : In64 a) (hb : In64 b) : bits_Mul.f a b = some (prod64 a b) := by
  have ma := mag_bound ha
  have mb := mag_bound hb
  unfold bits_Mul.f prod64 most
  rw [size_calls ha, size_calls hb]
  simp only [Option.bind_some]
  rw [mul64_calls ⟨ma.1, by omega⟩ ⟨mb.1, by omega⟩]
  simp only [Option.bind_some]
  have hp : 0 ≤ mag a * mag b := Int.mul_nonneg ma.1 mb.1
  generalize mag a * mag b = p at *
  by_cases c : ((decide (a < 0)) != (decide (b < 0))) = true
  · rw [if_pos c, if_pos c]
    by_cases d : p ≤ 9223372036854775808
    · rw [if_pos d, if_neg (by omega), if_neg (by omega)]
    · rw [if_neg d]
      by_cases e : p / 18446744073709551616 > 0
      · rw [if_pos e]
      · rw [if_neg e, if_pos (by omega)]
  · rw [if_neg c, if_neg c]
    by_cases d : p ≤ 9223372036854775807
    · rw [if_pos d, if_neg (by omega), if_neg (by omega)]
    · rw [if_neg d]
      by_cases e : p / 18446744073709551616 > 0
      · rw [if_pos e]
      · rw [if_neg e, if_pos (by omega)]

theorem quo_test {x y m : Int} (_hx : 0 ≤ x) (hy : 0 < y) (hm : 0 ≤ m) (hm2 : m < 18446744073709551616) : (x > IntKind.u64.wrap (Int.tdiv m y)) ↔ ¬ x * y ≤ m := by
  rw [Int.tdiv_eq_ediv_of_nonneg hm]
  have h0 : 0 ≤ m / y := Int.ediv_nonneg hm (by omega)
  have h1 : m / y ≤ m := Int.ediv_le_self _ hm
  rw [u64w_id h0 (by omega)]
  have := Int.le_ediv_iff_mul_le (a := x) (b := m) hy
  omega

theorem mul_ref (k : Nat) {a b : Int} (ha : In64 a) (hb : In64 b) : antipoderef1_Mul.f (k + 1) a b = some (prod64 a b) := by
  have ma := mag_bound ha
  have mb := mag_bound hb
  have z : (a = 0 ∨ b = 0) → prod64 a b = (0, 0) := by
    rintro (h | h)
    · subst h
      have : mag 0 = 0 := by unfold mag; simp
      unfold prod64 most
      rw [this]
      simp [wrap64]
      split <;> omega
    · subst h
      have : mag 0 = 0 := by unfold mag; simp
      unfold prod64 most
      rw [this]
      simp [wrap64]
      split <;> omega
  unfold antipoderef1_Mul.f
  by_cases h0 : a = 0
  · rw [if_pos h0, z (.inl h0)]
    simp [antipoderef1_Mul.j0]
  rw [if_neg h0]
  by_cases h1 : b = 0
  · rw [z (.inr h1)]
    simp [antipoderef1_Mul.j0, h1]
  have h1b : (b == 0) = false := beq_eq_false_iff_ne.mpr h1
  rw [h1b]
  simp only [antipoderef1_Mul.j0]
  rw [if_neg (by decide), size_ref ha, size_ref hb]
  simp only [Option.bind_some]
  have hb0 : 0 < mag b := by unfold mag; split <;> omega
  unfold prod64 most
  by_cases c : ((decide (a < 0)) != (decide (b < 0))) = true
  · rw [if_pos c, if_pos c, if_neg (by omega)]
    by_cases d : mag a * mag b ≤ 9223372036854775808
    · rw [if_pos d, if_neg (by rw [quo_test ma.1 hb0 (by omega) (by omega)]; simpa using d)]
    · rw [if_neg d, if_pos ((quo_test ma.1 hb0 (by omega) (by omega)).2 d)]
  · rw [if_neg c, if_neg c, if_neg (by omega)]
    by_cases d : mag a * mag b ≤ 9223372036854775807
    · rw [if_pos d, if_neg (by rw [quo_test ma.1 hb0 (by omega) (by omega)]; simpa using d)]
    · rw [if_neg d, if_pos ((quo_test ma.1 hb0 (by omega) (by omega)).2 d)]
end Go.Proofs.Ytdklkeocmjofkaa.Pure

/- The pure statement behind BitsTurns: signs are laid aside and back as the document has it. No condition beyond the statement's own. -/
import Derived.Test.YtdklkeocmjofkaaQAx2
import Derived.Test.YtdklkeocmjofkaaFacts
namespace Go.Proofs.Ytdklkeocmjofkaa.Pure
open Go.RowKit Go.Proofs.Ytdklkeocmjofkaa.QA Go.Proofs.YtdklkeocmjofkaaW.PrintWords Go.Proofs.YtdklkeocmjofkaaW.PrintLast Go.Proofs.YtdklkeocmjofkaaW.PrintMore Go.Proofs.Ytdklkeocmjofkaa.Facts

theorem begun_turns : antipodelaw1_begun.f 20 = some true := by decide +kernel

/-- Signs laid aside. -/
def zig (a : Int) : Int := if 0 ≤ a then 2 * a else -2 * a - 1
def zag (u : Int) : Int := if u % 2 = 0 then u / 2 else -(u / 2) - 1
def order (a : Int) : Int := a + 9223372036854775808

theorem zig_calls {a : Int} (h : In64 a) : bits_Zig.f a = some (zig a) := by
  have h1 := h.1
  have h2 := h.2
  unfold bits_Zig.f zig
  congr 1
  by_cases c : 0 ≤ a
  · rw [if_pos c, u64w_id (x := a) (by omega) (by omega), u64w_id (x := a * 2) (by omega) (by omega), show a / 9223372036854775808 = 0 by omega, u64w_id (x := 0) (by omega) (by omega), xor_zero ⟨by omega, by omega⟩]
    omega
  · rw [if_neg c, u64w a, u64w, u64w, show a / 9223372036854775808 = -1 by omega, show (-1 : Int) % 18446744073709551616 = 18446744073709551615 by decide, xor_ones ⟨by omega, by omega⟩]
    omega
theorem zig_ref {a : Int} (h : In64 a) : antipoderef1_Zig.f a = some (zig a) := by
  have h1 := h.1
  have h2 := h.2
  unfold antipoderef1_Zig.f zig
  by_cases c : 0 ≤ a
  · rw [if_pos c, if_pos (by omega)]
    congr 1
    rw [u64w_id (x := a) (by omega) (by omega), u64w_id (by omega) (by omega)]
  · rw [if_neg c, if_neg (by omega)]
    congr 1
    rw [w64_id (x := a + 1) (by omega) (by omega), w64_id (x := -(a + 1)) (by omega) (by omega), u64w_id (x := -(a + 1)) (by omega) (by omega), u64w_id (x := 2 * -(a + 1)) (by omega) (by omega), u64w_id (by omega) (by omega)]
    omega
theorem zag_calls {u : Int} (h : U64 u) : bits_Zag.f u = some (zag u) := by
  have h1 := h.1
  have h2 := h.2
  unfold bits_Zag.f zag
  congr 1
  rw [and_one h, w64_id (x := u / 2) (by omega) (by omega), w64_id (x := u % 2) (by omega) (by omega), w64_id (x := -(u % 2)) (by omega) (by omega)]
  by_cases c : u % 2 = 0
  · rw [if_pos c, c]
    exact xor_i64_zero ⟨by omega, by omega⟩
  · rw [if_neg c, show u % 2 = 1 by omega]
    exact xor_i64_ones ⟨by omega, by omega⟩
theorem zag_ref {u : Int} (h : U64 u) : antipoderef1_Zag.f u = some (zag u) := by
  have h1 := h.1
  have h2 := h.2
  unfold antipoderef1_Zag.f zag
  rw [Int.tmod_eq_emod_of_nonneg h1, Int.tdiv_eq_ediv_of_nonneg h1]
  by_cases c : u % 2 = 0
  · rw [if_pos c, if_pos c]
    congr 1
    rw [u64w_id (by omega) (by omega), w64_id (by omega) (by omega)]
  · rw [if_neg c, if_neg c]
    congr 1
    rw [u64w_id (by omega) (by omega), w64_id (x := u / 2) (by omega) (by omega), w64_id (x := -(u / 2)) (by omega) (by omega), w64_id (by omega) (by omega)]
theorem order_calls {a : Int} (h : In64 a) : bits_Order.f a = some (order a) := by
  have h1 := h.1
  have h2 := h.2
  unfold bits_Order.f order
  congr 1
  rw [u64w, xor_sign ⟨by omega, by omega⟩]
  split <;> omega
theorem order_ref {a : Int} (h : In64 a) : antipoderef1_Order.f a = some (order a) := by
  have h1 := h.1
  have h2 := h.2
  unfold antipoderef1_Order.f order
  by_cases c : a ≥ 0
  · rw [if_pos c]
    congr 1
    rw [u64w_id (x := a) (by omega) (by omega), u64w_id (by omega) (by omega)]
    omega
  · rw [if_neg c]
    congr 1
    rw [w64_id (x := a + 9223372036854775807) (by omega) (by omega), w64_id (by omega) (by omega), u64w_id (by omega) (by omega)]
    omega
theorem back_calls {u : Int} (h : U64 u) : bits_Back.f u = some (u - 9223372036854775808) := by
  have h1 := h.1
  have h2 := h.2
  unfold bits_Back.f
  congr 1
  rw [xor_sign h]
  unfold wrap64
  split <;> omega
theorem back_ref {u : Int} (h : U64 u) : antipoderef1_Back.f u = some (u - 9223372036854775808) := by
  have h1 := h.1
  have h2 := h.2
  unfold antipoderef1_Back.f
  by_cases c : u ≥ 9223372036854775808
  · rw [if_pos c]
    congr 1
    rw [u64w_id (by omega) (by omega), w64_id (by omega) (by omega)]
  · rw [if_neg c]
    congr 1
    rw [w64_id (x := u) (by omega) (by omega), w64_id (x := u - 9223372036854775807) (by omega) (by omega), w64_id (by omega) (by omega)]
    omega

theorem BitsTurns : antipodelaw1_BitsTurns.Pure := by
  intro a u ha hu
  refine ⟨20, ?_⟩
  have ha := in64_of_wf ha
  have hu := u64_of_wf hu
  unfold antipodelaw1_BitsTurns.f
  rw [begun_turns, zig_calls ha, zig_ref ha, zag_calls hu, zag_ref hu, order_calls ha, order_ref ha, back_calls hu, back_ref hu]
  simp

end Go.Proofs.Ytdklkeocmjofkaa.Pure

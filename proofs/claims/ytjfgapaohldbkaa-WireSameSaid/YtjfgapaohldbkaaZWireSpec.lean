/- What the printed functions under wire come to, said by the plain codec of wire: signs, stamps, numbers. Each under the bounds that it states. -/
import Derived.Test.YtjfgapaohldbkaaZQAx7
import Derived.Test.YtjfgapaohldbkaaZQAx10
import Derived.Test.YtjfgapaohldbkaaZQAx8
import Derived.Test.YtjfgapaohldbkaaZWireC
import Derived.Test.YtjfgapaohldbkaaZQASpec
import Derived.Test.YtjfgapaohldbkaaZQAPutSpec
namespace Go.Proofs.Ytjfgapaohldbkaa.WireSpec
open Go.RowKit Go.Proofs.Ytjfgapaohldbkaa.QA Go.Proofs.YtjfgapaohldbkaaW.PrintWords Go.Proofs.Ytjfgapaohldbkaa.Facts Go.Proofs.Ytjfgapaohldbkaa.Codec Go.Proofs.Ytjfgapaohldbkaa.WireC Go.Proofs.Ytjfgapaohldbkaa.QASpec Go.Proofs.Ytjfgapaohldbkaa.QAPutSpec
theorem zig_calls {a : Int} (h : In64 a) : bits_Zig.f a = some (zig a) := by
 have h1 := h.1
 have h2 := h.2
 unfold bits_Zig.f zig
 congr 1
 by_cases c : 0 ≤ a
 ·rw [if_pos c, u64w_id (x := a) (by omega) (by omega), u64w_id (x := a * 2) (by omega) (by omega), show a / 9223372036854775808 = 0 by omega, u64w_id (x := 0) (by omega) (by omega), xor_zero ⟨by omega, by omega⟩]
  omega
 ·rw [if_neg c, u64w a, u64w, u64w, show a / 9223372036854775808 = -1 by omega, show (-1 : Int) % 18446744073709551616 = 18446744073709551615 by decide, xor_ones ⟨by omega, by omega⟩]
  omega
theorem zag_calls {u : Int} (h : U64 u) : bits_Zag.f u = some (zag u) := by
 have h1 := h.1
 have h2 := h.2
 unfold bits_Zag.f zag
 congr 1
 rw [and_one h, w64_id (x := u / 2) (by omega) (by omega), w64_id (x := u % 2) (by omega) (by omega), w64_id (x := -(u % 2)) (by omega) (by omega)]
 by_cases c : u % 2 = 0
 ·rw [if_pos c, c]
  exact xor_i64_zero ⟨by omega, by omega⟩
 ·rw [if_neg c, show u % 2 = 1 by omega]
  exact xor_i64_ones ⟨by omega, by omega⟩
theorem pow8 : (256 : Int) ^ 8 = 18446744073709551616 := by decide
theorem put8 {l : List Int} {v : Int} (hv : U64 v) : putS l v 8 = (l ++ be 8 v, 0) := by
 have := hv.2
 unfold putS
 rw [if_neg (by omega), if_neg (by rw [show (8 : Int).toNat = 8 from rfl, pow8]; omega)]
 rfl
theorem stamp_calls (k : Nat) (hk : 12 ≤ k) {x : S25} (hw : In64 x.f0) (ht : In64 x.f1) : stamp_Bytes.f k x.f0 x.f1 = some (eS x) := by
 unfold stamp_Bytes.f
 refine bind_to (order_calls hw) ?_
 refine bind_to ((put_calls k hk (order_u64 hw) (by simp)).trans (congrArg some (put8 (order_u64 hw)))) ?_
 refine bind_to (order_calls ht) ?_
 refine bind_to ((put_calls k hk (order_u64 ht) (by simp [be_len])).trans (congrArg some (put8 (order_u64 ht)))) ?_
 rfl
def takeS (l : List Int) : Int × Int × Int := if l.length < 16 then (0, 0, 2) else if l.length > 16 then (0, 0, 3) else (gv (l.take 8) - 9223372036854775808, gv (l.drop 8) - 9223372036854775808, 0)
theorem gets {l : List Int} (h : l.length = 16) : getS l 0 8 = (gv (l.take 8), 0) ∧ getS l 8 8 = (gv (l.drop 8), 0) := by
 unfold getS
 rw [h]
 have e : l.take 16 = l := List.take_of_length_le (by omega)
 constructor
 ·rfl
 ·show (gv ((l.take 16).drop 8), (0 : Int)) = _
  rw [e]
theorem gv_u64 {l : List Int} (hb : Bytes l) (h : l.length ≤ 8) : U64 (gv l) := by
 have := gv_range l hb
 have h2 : 256 ^ l.length ≤ 256 ^ 8 := Nat.pow_le_pow_right (by omega) h
 have h3 : ((256 ^ l.length : Nat) : Int) ≤ ((18446744073709551616 : Nat) : Int) := Int.ofNat_le.2 h2
 rw [Int.natCast_pow] at h3
 have h4 : (256 : Int) ^ l.length ≤ 18446744073709551616 := h3
 exact ⟨this.1, by omega⟩
theorem take_calls {l : List Int} (hb : Bytes l) (hl : l.length < 140737488355328) : stamp_Take.f 40 l = some (takeS l) := by
 unfold stamp_Take.f takeS
 by_cases c1 : l.length < 16
 ·rw [if_pos (by omega), if_pos c1]
 by_cases c2 : l.length > 16
 ·rw [if_neg (by omega), if_pos (by omega), if_neg c1, if_pos c2]
 obtain ⟨e1, e2⟩ := gets (l := l) (by omega)
 rw [if_neg (by omega), if_neg (by omega), if_neg c1, if_neg c2, get_calls 40 (by omega) hb hl, e1, get_calls 40 (by omega) hb hl, e2]
 simp only [Option.bind_some]
 rw [back_calls (gv_u64 (fun c h => hb c (List.mem_of_mem_take h)) (by rw [List.length_take]; omega)), back_calls (gv_u64 (fun c h => hb c (List.mem_of_mem_drop h)) (by rw [List.length_drop]; omega))]
 rfl
end Go.Proofs.Ytjfgapaohldbkaa.WireSpec


/- What the printed functions that lay and read numbers of n bytes, and turn signs, come to, said by the plain codec. Each under the bounds that it states. -/
import Derived.Test.YtjfgapaohldbkaaZQAx8
import Derived.Test.YtjfgapaohldbkaaZQAx10
import Derived.Test.YtjfgapaohldbkaaZCodec
namespace Go.Proofs.Ytjfgapaohldbkaa.QAPutSpec
open Go.RowKit Go.Proofs.Ytjfgapaohldbkaa.QA Go.Proofs.YtjfgapaohldbkaaW.PrintWords Go.Proofs.YtjfgapaohldbkaaW.PrintLast Go.Proofs.YtjfgapaohldbkaaW.PrintMore Go.Proofs.Ytjfgapaohldbkaa.Facts Go.Proofs.Ytjfgapaohldbkaa.Codec
theorem room_some {l : List Int} {n : Int} (h0 : 0 ≤ n) (hn : n ≤ 70368744177664) (hl : l.length < 140737488355328) : bits_room.f l n = some l := by
 unfold bits_room.f
 rw [w64_id (by omega) (by omega), if_pos (by omega), if_pos (by omega)]
 simp only [Option.bind_some, List.length_nil, List.nil_append]
 rw [if_pos (by omega)]
theorem pow_256 (i : Nat) : (2 : Int) ^ (8 * i) = 256 ^ i := by
 rw [Int.pow_mul]
 rfl
theorem shr_step (v : Int) (n : Nat) (hn : n ≤ 7) : shr .u64 v (IntKind.u64.wrap (8 * (n : Int))) = v / 256 ^ n := by
 rw [u64w_id (by omega) (by omega)]
 unfold shr
 have e : min ((8 * (n : Int)).toNat) IntKind.u64.bits = 8 * n := by
  rw [show IntKind.u64.bits = 64 from rfl]
  omega
 rw [e, pow_256]
theorem put_loop (v : Int) (n : Nat) : ∀ (k : Nat) (acc : List Int), n ≤ 8 → n < k → acc.length + n < 140737488355328 → bits_Put.l0 k v acc (8 * (n : Int) - 8) = some (acc ++ be n v, 0) := by
 induction n with
 | zero =>
  intro k acc _ hk hl
  obtain ⟨k, rfl⟩ : ∃ m, k = m + 1 := ⟨k - 1, by omega⟩
  simp only [bits_Put.l0, be]
  rw [if_neg (by omega), List.append_nil]
 | succ n ih =>
  intro k acc h8 hk hl
  obtain ⟨k, rfl⟩ : ∃ m, k = m + 1 := ⟨k - 1, by omega⟩
  have e : 8 * ((n + 1 : Nat) : Int) - 8 = 8 * (n : Int) := by omega
  rw [e]
  simp only [bits_Put.l0, be]
  rw [if_pos (by omega), if_pos (by rw [u64w_id (by omega) (by omega)]; omega), if_pos (by omega), shr_step v n (by omega), w64_id (by omega) (by omega), ih k _ (by omega) (by omega) (by simp; omega)]
  simp
theorem len_over {v : Int} (hv : U64 v) (n : Nat) (hn : n ≤ 8) : ((Lib.bitLen v.toNat : Nat) : Int) > 8 * (n : Int) ↔ 256 ^ n ≤ v := by
 obtain ⟨x, rfl⟩ := Int.eq_ofNat_of_zero_le hv.1
 have h2 := hv.2
 have hx : x < 2 ^ 64 := by
  have : (2 : Nat) ^ 64 = 18446744073709551616 := by decide
  omega
 rw [Int.toNat_natCast]
 have e : ((256 : Int) ^ n) = ((2 ^ (8 * n) : Nat) : Int) := by rw [Int.natCast_pow]; exact (pow_256 n).symm
 rw [e]
 constructor
 ·intro h
  rcases Nat.lt_or_ge x (2 ^ (8 * n)) with h3 | h3
  ·have := Lib.bitLen_le x (8 * n) (by omega) h3
   omega
  ·exact_mod_cast h3
 ·intro h
  have h3 : 2 ^ (8 * n) ≤ x := by exact_mod_cast h
  have h4 := Lib.bitLen_shift (8 * n) x h3 hx
  have h5 : x / 2 ^ (8 * n) ≠ 0 := by
   have := Nat.div_pos h3 (Nat.two_pow_pos _)
   omega
  have h6 := Lib.bitLen_half (x / 2 ^ (8 * n)) h5 (Nat.lt_of_le_of_lt (Nat.div_le_self _ _) hx)
  omega
def putS (l : List Int) (v n : Int) : List Int × Int := if n < 1 ∨ n > 8 then ([], 1) else if 256 ^ n.toNat ≤ v then ([], 5) else (l ++ be n.toNat v, 0)
theorem put_calls (k : Nat) {l : List Int} {v n : Int} (hk : 12 ≤ k) (hv : U64 v) (hl : l.length + 8 < 140737488355328) : bits_Put.f k l v n = some (putS l v n) := by
 obtain ⟨k, rfl⟩ : ∃ m, k = m + 1 := ⟨k - 1, by omega⟩
 unfold bits_Put.f putS
 simp only [bits_Put.j0]
 by_cases c1 : n < 1
 ·rw [if_pos c1, if_pos trivial, if_pos (.inl c1)]
 by_cases c2 : n > 8
 ·rw [if_neg c1, decide_eq_true c2, if_pos rfl, if_pos (.inr c2)]
 obtain ⟨m, rfl⟩ := Int.eq_ofNat_of_zero_le (show 0 ≤ n by omega)
 have hlen : bits_Len64.f v = some ((Lib.bitLen v.toNat : Nat) : Int) := by
  have := hv.2
  unfold bits_Len64.f
  rw [if_pos hv.1, if_pos (by omega)]
 rw [if_neg c1, decide_eq_false c2, if_neg (by decide), if_neg (show ¬ ((m : Int) < 1 ∨ (m : Int) > 8) by omega), Int.toNat_natCast]
 refine bind_to hlen ?_
 rw [w64_id (x := 8 * (m : Int)) (by omega) (by omega)]
 have ho := len_over hv m (by omega)
 by_cases c3 : 256 ^ m ≤ v
 ·rw [if_pos (ho.2 c3), if_pos c3]
 ·rw [if_neg (fun h => c3 (ho.1 h)), if_neg c3]
  refine bind_to (room_some (by omega) (by omega) (by omega)) ?_
  rw [w64_id (x := (m : Int) - 1) (by omega) (by omega), w64_id (by omega) (by omega), show 8 * ((m : Int) - 1) = 8 * (m : Int) - 8 by omega]
  exact put_loop v m k l (by omega) (by omega) (by omega)
theorem rd_some {l : List Int} {i : Nat} (h : i < l.length) : rd l (i : Int) = l[i] := by
 unfold rd
 rw [Int.toNat_natCast, List.getD_eq_getElem?_getD, List.getElem?_eq_getElem h]
 rfl
theorem get_loop (l : List Int) (hb : Bytes l) (hl : l.length ≤ 8) (d : Nat) : ∀ (k i : Nat) (v : Int), i + d = l.length → d < k → v = gv (l.take i) → bits_Get.l0 k v l (l.length : Int) (i : Int) = some (gv l, 0) := by
 induction d with
 | zero =>
  intro k i v hi hk hv
  obtain ⟨k, rfl⟩ : ∃ m, k = m + 1 := ⟨k - 1, by omega⟩
  simp only [bits_Get.l0]
  rw [if_neg (by omega), hv, List.take_of_length_le (by omega)]
 | succ d ih =>
  intro k i v hi hk hv
  obtain ⟨k, rfl⟩ : ∃ m, k = m + 1 := ⟨k - 1, by omega⟩
  have hlt : i < l.length := by omega
  have hc := hb l[i] (List.getElem_mem hlt)
  have hg := gv_range (l.take i) (fun c h => hb c (List.mem_of_mem_take h))
  rw [← hv, List.length_take, Nat.min_eq_left (by omega)] at hg
  have hp : (256 : Int) ^ i ≤ 72057594037927936 := by
   have h2 : 256 ^ i ≤ 256 ^ 7 := Nat.pow_le_pow_right (by omega) (by omega)
   have h3 : ((256 ^ i : Nat) : Int) ≤ ((72057594037927936 : Nat) : Int) := Int.ofNat_le.2 h2
   rw [Int.natCast_pow] at h3
   exact h3
  simp only [bits_Get.l0]
  rw [if_pos (by omega), if_pos (by omega), if_pos (by omega), rd_some hlt, u64w_id (x := v * 256) (by omega) (by omega), u64w_id (x := l[i]) (by omega) (by omega), u64w_id (by omega) (by omega), w64_id (by omega) (by omega)]
  refine ih k (i + 1) _ (by omega) (by omega) ?_
  rw [List.take_succ_eq_append_getElem hlt]
  unfold gv at hv ⊢
  rw [List.foldl_append, ← hv]
  rfl
def getS (l : List Int) (at_ n : Int) : Int × Int := if n < 1 ∨ n > 8 ∨ at_ < 0 then (0, 1) else if at_ > (l.length : Int) - n then (0, 2) else (gv ((l.take (at_ + n).toNat).drop at_.toNat), 0)
theorem get_calls (k : Nat) {l : List Int} {a n : Int} (hk : 12 ≤ k) (hb : Bytes l) (hl : l.length < 140737488355328) : bits_Get.f k l a n = some (getS l a n) := by
 obtain ⟨k, rfl⟩ : ∃ m, k = m + 1 := ⟨k - 1, by omega⟩
 unfold bits_Get.f getS
 simp only [bits_Get.j0]
 by_cases c1 : n < 1
 ·rw [if_pos c1, if_pos trivial, if_pos (.inl c1)]
 by_cases c2 : n > 8
 ·rw [if_neg c1, if_pos c2, if_pos trivial, if_pos (.inr (.inl c2))]
 by_cases c3 : a < 0
 ·rw [if_neg c1, if_neg c2, decide_eq_true c3, if_pos rfl, if_pos (.inr (.inr c3))]
 rw [if_neg c1, if_neg c2, decide_eq_false c3, if_neg (by decide), if_neg (show ¬ (n < 1 ∨ n > 8 ∨ a < 0) by omega), w64_id (x := (l.length : Int) - n) (by omega) (by omega)]
 by_cases c4 : a > (l.length : Int) - n
 ·rw [if_pos c4, if_pos c4]
 rw [if_neg c4, if_neg c4, if_pos (by omega), w64_id (x := a + n) (by omega) (by omega), if_pos (by omega), if_pos (by omega)]
 simp only [Option.bind_some]
 have hlen : ((l.take (a + n).toNat).drop a.toNat).length = n.toNat := by rw [List.length_drop, List.length_take]; omega
 exact get_loop _ (fun c h => hb c (List.mem_of_mem_take (List.mem_of_mem_drop h))) (by omega) n.toNat k 0 0 (by omega) (by omega) (by simp [gv])
def order (a : Int) : Int := a + 9223372036854775808
theorem order_u64 {a : Int} (h : In64 a) : U64 (order a) := ⟨by have := h.1; unfold order; omega, by have := h.2; unfold order; omega⟩
theorem order_calls {a : Int} (h : In64 a) : bits_Order.f a = some (order a) := by
 have h1 := h.1
 have h2 := h.2
 unfold bits_Order.f order
 congr 1
 rw [u64w, xor_sign ⟨by omega, by omega⟩]
 split <;> omega
theorem back_calls {u : Int} (h : U64 u) : bits_Back.f u = some (u - 9223372036854775808) := by
 have h1 := h.1
 have h2 := h.2
 unfold bits_Back.f
 congr 1
 rw [xor_sign h]
 unfold wrap64
 split <;> omega
end Go.Proofs.Ytjfgapaohldbkaa.QAPutSpec


/- What the printed functions of package bits come to: room, Var, Text, TakeVar, TakeText, said by the plain codec. Each under the bounds that it states. -/
import Derived.Test.YtjfgapaohldbkaaZQAx7
import Derived.Test.YtjfgapaohldbkaaZQAx8
import Derived.Test.YtjfgapaohldbkaaZQAx10
import Derived.Test.YtjfgapaohldbkaaZQAx19
import Derived.Test.YtjfgapaohldbkaaZCodec
namespace Go.Proofs.Ytjfgapaohldbkaa.QASpec
open Go.RowKit Go.Proofs.Ytjfgapaohldbkaa.QA Go.Proofs.YtjfgapaohldbkaaW.PrintWords Go.Proofs.YtjfgapaohldbkaaW.PrintLast Go.Proofs.YtjfgapaohldbkaaW.PrintMore Go.Proofs.Ytjfgapaohldbkaa.Facts Go.Proofs.Ytjfgapaohldbkaa.Codec
theorem room_calls {l : List Int} {n : Int} (h0 : 0 ≤ n) (hn : n ≤ 70368744177664) (hl : l.length < 140737488355328) : bits_room.f l n = some l := by
 unfold bits_room.f
 rw [w64_id (by omega) (by omega), if_pos (by omega), if_pos (by omega)]
 simp only [Option.bind_some, List.length_nil, List.nil_append]
 rw [if_pos (by omega)]
theorem byte_low {v : Int} : (v % 256) % 128 = v % 128 := by omega
theorem var_loop (n : Nat) : ∀ (k : Nat) (v : Int) (acc : List Int), n < k → 0 ≤ v → v < 128 ^ (n + 1) → acc.length + n < 140737488355328 → bits_Var.l0 k v acc = some (acc ++ venc n v) := by
 induction n with
 | zero =>
  intro k v acc hk h0 h1 hl
  obtain ⟨k, rfl⟩ : ∃ m, k = m + 1 := ⟨k - 1, by omega⟩
  simp only [bits_Var.l0, venc]
  rw [if_neg (by omega), if_pos (by omega), show v % 256 = v by omega]
 | succ n ih =>
  intro k v acc hk h0 h1 hl
  obtain ⟨k, rfl⟩ : ∃ m, k = m + 1 := ⟨k - 1, by omega⟩
  simp only [bits_Var.l0, venc]
  by_cases h : v < 128
  ·rw [if_neg (by omega), if_pos (by omega), if_pos h, show v % 256 = v by omega]
  ·rw [if_pos (by omega), if_pos (by omega), if_neg h, or_bit7 ⟨by omega, by omega⟩, byte_low]
   rw [ih k (v / 128) _ (by omega) (by omega) (by rw [Int.pow_succ] at h1; omega) (by simp; omega)]
   simp
theorem var_calls (k : Nat) {l : List Int} {v : Int} (hk : 10 ≤ k) (hv : U64 v) (hl : l.length + 10 < 140737488355328) : bits_Var.f k l v = some (l ++ V v) := by
 unfold bits_Var.f
 rw [room_calls (by omega) (by omega) (by omega)]
 simp only [Option.bind_some]
 exact var_loop 9 k v l (by omega) hv.1 (V_lt hv) (by omega)
theorem text_calls (k : Nat) {l s : List Int} (hk : 10 ≤ k) (hl : l.length + s.length + 10 < 140737488355328) : bits_Text.f k l s = some (l ++ T s) := by
 unfold bits_Text.f
 have hs : U64 (s.length : Int) := ⟨by omega, by omega⟩
 have := V_len (s.length : Int)
 rw [u64w_id hs.1 hs.2, var_calls k hk hs (by omega)]
 simp only [Option.bind_some]
 rw [if_pos (by rw [List.length_append]; omega)]
 unfold T
 rw [List.append_assoc]
theorem pow_128 (i : Nat) : (2 : Int) ^ (7 * i) = 128 ^ i := by
 rw [Int.pow_mul]
 rfl
theorem shl_step {c : Int} (i : Nat) (hi : i ≤ 9) (hc : 0 ≤ c ∧ c < 256) (h9 : i = 9 → c ≤ 1) :
  shl .u64 (IntKind.u64.wrap (Go.bits .andNot .u8 c 128)) (IntKind.u64.wrap (wrap64 (7 * (i : Int)))) = c % 128 * 128 ^ i := by
 rw [andNot_bit7 hc, u64w_id (x := c % 128) (by omega) (by omega), w64_id (by omega) (by omega), u64w_id (by omega) (by omega)]
 unfold shl
 have e : min ((7 * (i : Int)).toNat) IntKind.u64.bits = 7 * i := by
  rw [show IntKind.u64.bits = 64 from rfl]
  omega
 rw [e, pow_128]
 have hp : (0 : Int) < 128 ^ i := Int.pow_pos (by omega)
 have h0 : 0 ≤ c % 128 * 128 ^ i := Int.mul_nonneg (by omega) (by omega)
 have h1 : c % 128 * 128 ^ i < 18446744073709551616 := by
  have e9 : (128 : Int) ^ 9 = 9223372036854775808 := by decide
  by_cases h : i = 9
  ·subst h
   have := h9 rfl
   have h3 : c % 128 * 128 ^ 9 ≤ 1 * 128 ^ 9 := Int.mul_le_mul_of_nonneg_right (by omega) (by omega)
   omega
  ·have h2 : (128 : Int) ^ i ≤ 128 ^ 8 := by
    have := Nat.pow_le_pow_right (show 1 ≤ 128 by omega) (show i ≤ 8 by omega)
    exact_mod_cast this
   have e8 : (128 : Int) ^ 8 = 72057594037927936 := by decide
   have h3 : c % 128 * 128 ^ i ≤ 127 * 128 ^ i := Int.mul_le_mul_of_nonneg_right (by omega) (by omega)
   omega
 exact u64w_id h0 h1
theorem or_step {acc c : Int} (i : Nat) (hi : i ≤ 9) (hc : 0 ≤ c ∧ c < 256) (h9 : i = 9 → c ≤ 1) (ha : 0 ≤ acc) (hb : acc < 128 ^ i) :
  Go.bits .or .u64 acc (shl .u64 (IntKind.u64.wrap (Go.bits .andNot .u8 c 128)) (IntKind.u64.wrap (wrap64 (7 * (i : Int))))) = acc + c % 128 * 128 ^ i := by
 rw [shl_step i hi hc h9]
 have hp : (0 : Int) < 128 ^ i := Int.pow_pos (by omega)
 have h0 : 0 ≤ c % 128 * 128 ^ i := Int.mul_nonneg (by omega) (by omega)
 have e9 : (128 : Int) ^ 9 = 9223372036854775808 := by decide
 have h2 : (128 : Int) ^ i ≤ 128 ^ 9 := by
  have := Nat.pow_le_pow_right (show 1 ≤ 128 by omega) hi
  exact_mod_cast this
 have h1 : c % 128 * 128 ^ i < 18446744073709551616 := by
  by_cases h : i = 9
  ·subst h
   have := h9 rfl
   have h3 : c % 128 * 128 ^ 9 ≤ 1 * 128 ^ 9 := Int.mul_le_mul_of_nonneg_right (by omega) (by omega)
   omega
  ·have h2 : (128 : Int) ^ i ≤ 128 ^ 8 := by
    have := Nat.pow_le_pow_right (show 1 ≤ 128 by omega) (show i ≤ 8 by omega)
    exact_mod_cast this
   have e8 : (128 : Int) ^ 8 = 72057594037927936 := by decide
   have h3 : c % 128 * 128 ^ i ≤ 127 * 128 ^ i := Int.mul_le_mul_of_nonneg_right (by omega) (by omega)
   omega
 exact or_apart (7 * i) ⟨ha, by omega⟩ ⟨h0, h1⟩ (by rw [pow_128]; exact hb) (by rw [pow_128]; exact Int.mul_emod_left _ _)
theorem shift_pos (i : Nat) (hi : i ≤ 9) : 0 ≤ IntKind.u64.wrap (wrap64 (7 * (i : Int))) := by
 rw [w64_id (by omega) (by omega), u64w_id (by omega) (by omega)]
 omega
theorem rd_drop {l : List Int} {i : Nat} {c : Int} {t : List Int} (h : l.drop i = c :: t) : rd l (i : Int) = c ∧ i < l.length ∧ l.drop (i + 1) = t := by
 have hl : i < l.length := by
  have := congrArg List.length h
  simp only [List.length_drop, List.length_cons] at this
  omega
 rw [List.drop_eq_getElem_cons hl] at h
 injection h with h1 h2
 refine ⟨?_, hl, h2⟩
 unfold rd
 rw [Int.toNat_natCast, List.getD_eq_getElem?_getD, List.getElem?_eq_getElem hl]
 exact h1
theorem takeVar_loop (l : List Int) (hb : Bytes l) (hl : l.length < 140737488355328) (d : Nat) : ∀ (k i : Nat) (acc : Int), d + i = 9 → 2 * d + 2 < k → 0 ≤ acc → acc < 128 ^ i →
  bits_TakeVar.l0 k acc l (l.length : Int) (i : Int) = some (tv i acc (l.drop i)) := by
 induction d with
 | zero =>
  intro k i acc hi hk ha hc
  obtain rfl : i = 9 := by omega
  obtain ⟨k, rfl⟩ : ∃ m, k = m + 1 + 1 := ⟨k - 2, by omega⟩
  rcases hd : l.drop 9 with _ | ⟨c, t⟩
  ·have : l.length ≤ 9 := by simpa using hd
   simp only [bits_TakeVar.l0, tv]
   rw [if_neg (by omega)]
  ·obtain ⟨h1, h2, h3⟩ := rd_drop hd
   have hcb := hb c (by have := List.mem_of_mem_drop (show c ∈ l.drop 9 by rw [hd]; simp); exact this)
   simp only [bits_TakeVar.l0, tv]
   rw [if_pos (by omega), if_pos (by omega), if_pos (by omega), if_pos (by omega), h1]
   simp only [bits_TakeVar.j1]
   by_cases c1 : c > 1
   ·rw [decide_eq_true c1, if_pos rfl, if_pos ⟨trivial, c1⟩]
   ·rw [decide_eq_false c1, if_neg (by decide), if_pos (shift_pos 9 (by omega)), if_neg (show ¬ c ≥ 128 by omega), if_neg (show ¬ (True ∧ c > 1) by omega), if_neg (show ¬ c ≥ 128 by omega), or_step 9 (by omega) hcb (by omega) ha hc, w64_id (by omega) (by omega)]
    by_cases c2 : c = 0
    ·rw [if_pos c2, if_pos (by omega), if_pos ⟨c2, by omega⟩]
    ·rw [if_neg c2, if_neg (by omega)]
 | succ d ih =>
  intro k i acc hi hk ha hc
  obtain ⟨k, rfl⟩ : ∃ m, k = m + 1 + 1 := ⟨k - 2, by omega⟩
  rcases hd : l.drop i with _ | ⟨c, t⟩
  ·have : l.length ≤ i := by simpa using hd
   simp only [bits_TakeVar.l0, tv]
   rw [if_neg (by omega)]
  ·obtain ⟨h1, h2, h3⟩ := rd_drop hd
   have hcb := hb c (by have := List.mem_of_mem_drop (show c ∈ l.drop i by rw [hd]; simp); exact this)
   simp only [bits_TakeVar.l0, tv]
   rw [if_pos (by omega), if_pos (by omega), if_pos (by omega), if_neg (by omega), h1]
   simp only [bits_TakeVar.j1]
   rw [if_neg (by decide), if_pos (shift_pos i (by omega)), if_neg (show ¬ (i = 9 ∧ c > 1) by omega), or_step i (by omega) hcb (by omega) ha hc, w64_id (x := (i : Int) + 1) (by omega) (by omega)]
   by_cases c2 : c ≥ 128
   ·rw [if_pos c2, if_pos c2]
    have hp : (0 : Int) < 128 ^ i := Int.pow_pos (by omega)
    have hn : 0 ≤ c % 128 * 128 ^ i := Int.mul_nonneg (by omega) (by omega)
    have hu : acc + c % 128 * 128 ^ i < 128 ^ (i + 1) := by
     have h3 : c % 128 * 128 ^ i ≤ 127 * 128 ^ i := Int.mul_le_mul_of_nonneg_right (by omega) (by omega)
     rw [Int.pow_succ]
     omega
    have := ih k (i + 1) (acc + c % 128 * 128 ^ i) (by omega) (by omega) (by omega) hu
    rw [h3] at this
    rw [← this]
    rfl
   ·rw [if_neg c2, if_neg c2]
    by_cases c3 : c = 0
    ·rw [if_pos c3]
     by_cases c4 : i > 0
     ·rw [if_pos (by omega), if_pos ⟨c3, c4⟩]
     ·rw [if_neg (by omega), if_neg (by omega)]
    ·rw [if_neg c3, if_neg (by omega)]
theorem takeVar_calls (k : Nat) {l : List Int} (hk : 24 ≤ k) (hb : Bytes l) (hl : l.length < 140737488355328) : bits_TakeVar.f k l = some (tv 0 0 l) := by
 unfold bits_TakeVar.f
 exact takeVar_loop l hb hl 9 k 0 0 rfl (by omega) (by omega) (by omega)
theorem takeText_calls (k : Nat) {l : List Int} (hk : 24 ≤ k) (hb : Bytes l) (hl : l.length < 140737488355328) : bits_TakeText.f k l = some (tt l) := by
 unfold bits_TakeText.f
 rw [takeVar_calls k hk hb hl]
 have hr := tv_range l hb 0 0 (by omega) (by omega) (by omega)
 simp only at hr
 unfold tt
 generalize tv 0 0 l = r at *
 obtain ⟨v, n, e⟩ := r
 simp only at hr
 simp only [Option.bind_some]
 by_cases c : e = 0
 ·obtain ⟨a1, a2, a3, a4, a5, a6⟩ := hr
  have a4 := a4 c
  rw [if_pos c, if_neg (show ¬ e ≠ 0 by simpa using c)]
  by_cases c1 : v > 1048576
  ·rw [if_pos c1, if_pos c1]
  ·rw [if_neg c1, if_neg c1, w64_id (x := (l.length : Int) - n) (by omega) (by omega), u64w_id (x := (l.length : Int) - n) (by omega) (by omega)]
   by_cases c2 : v > (l.length : Int) - n
   ·rw [if_pos c2, if_pos c2]
   ·rw [if_neg c2, if_neg c2, if_pos a3, w64_id (x := v) (by omega) (by omega), w64_id (x := n + v) (by omega) (by omega), if_pos (by omega), if_pos (by omega), room_calls (by omega) (by omega) (by simp; omega)]
    simp
 ·rw [if_neg c, if_pos c]
end Go.Proofs.Ytjfgapaohldbkaa.QASpec


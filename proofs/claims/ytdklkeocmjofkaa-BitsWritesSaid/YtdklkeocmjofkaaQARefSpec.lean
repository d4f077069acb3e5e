/- What the document's own Var, Text, TakeVar, TakeText and Get, as printed, come to: the same plain codec as the program's. Under the bounds that each states. -/
import Derived.Test.YtdklkeocmjofkaaQAx
import Derived.Test.YtdklkeocmjofkaaQASpec
import Derived.Test.YtdklkeocmjofkaaQAPutSpec
namespace Go.Proofs.Ytdklkeocmjofkaa.QARefSpec
open Go.RowKit Go.Proofs.Ytdklkeocmjofkaa.QA Go.Proofs.YtdklkeocmjofkaaW.PrintWords Go.Proofs.YtdklkeocmjofkaaW.PrintLast Go.Proofs.YtdklkeocmjofkaaW.PrintMore Go.Proofs.Ytdklkeocmjofkaa.Facts Go.Proofs.Ytdklkeocmjofkaa.Codec Go.Proofs.Ytdklkeocmjofkaa.QASpec Go.Proofs.Ytdklkeocmjofkaa.QAPutSpec

theorem refVar_loop (n : Nat) : ∀ (k : Nat) (v : Int) (acc : List Int), n < k → 0 ≤ v → v < 128 ^ (n + 1) → v < 18446744073709551616 → acc.length + n < 140737488355328 → antipoderef1_Var.l0 k v acc = some (acc ++ venc n v) := by
  induction n with
  | zero =>
    intro k v acc hk h0 h1 hu hl
    obtain ⟨k, rfl⟩ : ∃ m, k = m + 1 := ⟨k - 1, by omega⟩
    simp only [antipoderef1_Var.l0, venc]
    rw [if_neg (by omega), if_pos (by omega), show v % 256 = v by omega]
  | succ n ih =>
    intro k v acc hk h0 h1 hu hl
    obtain ⟨k, rfl⟩ : ∃ m, k = m + 1 := ⟨k - 1, by omega⟩
    simp only [antipoderef1_Var.l0, venc]
    by_cases c : v ≥ 128
    · rw [if_pos c, if_pos (by omega), Int.tdiv_eq_ediv_of_nonneg h0, Int.tmod_eq_emod_of_nonneg h0, u64w_id (by omega) (by omega), show (v % 128 + 128) % 256 = v % 128 + 128 by omega]
      rw [ih k (v / 128) _ (by omega) (by omega) (by rw [Int.pow_succ] at h1; omega) (by omega) (by simp only [List.length_append, List.length_singleton]; omega), List.append_assoc]
      rw [if_neg (by omega)]
      rfl
    · rw [if_neg c, if_pos (by omega), if_pos (by omega), show v % 256 = v by omega]
theorem refVar_calls (k : Nat) {l : List Int} {v : Int} (hk : 10 ≤ k) (hv : U64 v) (hl : l.length + 10 < 140737488355328) : antipoderef1_Var.f k l v = some (l ++ V v) := by
  unfold antipoderef1_Var.f
  refine bind_to rfl ?_
  rw [if_pos (by simp only [List.length_nil]; omega), List.nil_append]
  exact refVar_loop 9 k v l (by omega) hv.1 (V_lt hv) hv.2 (by omega)
theorem refText_calls (k : Nat) {l s : List Int} (hk : 10 ≤ k) (hl : l.length + s.length + 10 < 140737488355328) : antipoderef1_Text.f k l s = some (l ++ T s) := by
  unfold antipoderef1_Text.f T
  rw [u64w_id (by omega) (by omega)]
  refine bind_to (refVar_calls k hk ⟨by omega, by omega⟩ (by omega)) ?_
  have := V_len (s.length : Int)
  rw [if_pos (by simp only [List.length_append]; omega), List.append_assoc]
theorem unit_step {c x u : Int} (hc : 0 ≤ c ∧ c < 256) (hx : 0 ≤ x) (i : Nat) (hi : i ≤ 9) (hu : u = 128 ^ i) (hb : x < 128 ^ i) (h9 : i = 9 → c ≤ 1) :
    IntKind.u64.wrap (x + IntKind.u64.wrap (IntKind.u64.wrap (Int.tmod c 128) * u)) = x + c % 128 * 128 ^ i := by
  subst hu
  rw [Int.tmod_eq_emod_of_nonneg hc.1, u64w_id (x := c % 128) (by omega) (by omega)]
  have hp : (0 : Int) < 128 ^ i := Int.pow_pos (by omega)
  have h0 : 0 ≤ c % 128 * 128 ^ i := Int.mul_nonneg (by omega) (by omega)
  have hle : x + c % 128 * 128 ^ i < 18446744073709551616 := by
    by_cases h : i = 9
    · subst h
      have h3 : c % 128 * 128 ^ 9 ≤ 1 * 128 ^ 9 := Int.mul_le_mul_of_nonneg_right (by omega) (by omega)
      have h4 : (128 : Int) ^ 9 = 9223372036854775808 := by decide
      omega
    · have h3 : c % 128 * 128 ^ i ≤ 127 * 128 ^ i := Int.mul_le_mul_of_nonneg_right (by omega) (by omega)
      have h5 : (128 : Int) ^ i ≤ 128 ^ 8 := by
        have := Nat.pow_le_pow_right (show 1 ≤ 128 by omega) (show i ≤ 8 by omega)
        exact_mod_cast this
      have h4 : (128 : Int) ^ 8 = 72057594037927936 := by decide
      omega
  rw [u64w_id (x := c % 128 * 128 ^ i) (by omega) (by omega), u64w_id (by omega) (by omega)]
theorem refTake_loop (l : List Int) (hb : Bytes l) (hl : l.length < 140737488355328) (d : Nat) : ∀ (k i : Nat) (acc u : Int), d + i = 9 → 2 * d + 2 < k → 0 ≤ acc → acc < 128 ^ i → u = 128 ^ i →
    antipoderef1_TakeVar.l0 k l acc u (i : Int) = some (tv i acc (l.drop i)) := by
  induction d with
  | zero =>
    intro k i acc u hi hk ha hc hu
    obtain rfl : i = 9 := by omega
    obtain ⟨k, rfl⟩ : ∃ m, k = m + 1 + 1 := ⟨k - 2, by omega⟩
    rcases hd : l.drop 9 with _ | ⟨c, t⟩
    · have : l.length ≤ 9 := by simpa using hd
      simp only [antipoderef1_TakeVar.l0, tv]
      rw [if_pos (by omega), if_pos (by omega)]
    · obtain ⟨h1, h2, h3⟩ := rd_drop hd
      have hcb := hb c (by have := List.mem_of_mem_drop (show c ∈ l.drop 9 by rw [hd]; simp); exact this)
      simp only [antipoderef1_TakeVar.l0, tv]
      rw [if_pos (by omega), if_neg (by omega), if_pos (by omega), if_pos (by omega), if_pos (by omega), h1]
      simp only [antipoderef1_TakeVar.j1]
      by_cases c1 : c > 1
      · rw [decide_eq_true c1, if_pos rfl, if_pos ⟨trivial, c1⟩]
      · rw [decide_eq_false c1, if_neg (by decide), if_pos (by omega), if_pos (by omega), h1, if_pos (by omega), if_neg (show ¬ (True ∧ c > 1) by omega), if_neg (show ¬ c ≥ 128 by omega), unit_step hcb ha 9 (by omega) hu hc (by omega), w64_id (by omega) (by omega)]
        by_cases c2 : c = 0
        · rw [if_pos c2, if_pos (by omega), if_pos ⟨c2, by omega⟩]
        · rw [if_neg c2, if_neg (by omega)]
  | succ d ih =>
    intro k i acc u hi hk ha hc hu
    obtain ⟨k, rfl⟩ : ∃ m, k = m + 1 + 1 := ⟨k - 2, by omega⟩
    rcases hd : l.drop i with _ | ⟨c, t⟩
    · have : l.length ≤ i := by simpa using hd
      simp only [antipoderef1_TakeVar.l0, tv]
      rw [if_pos (by omega), if_pos (by omega)]
    · obtain ⟨h1, h2, h3⟩ := rd_drop hd
      have hcb := hb c (by have := List.mem_of_mem_drop (show c ∈ l.drop i by rw [hd]; simp); exact this)
      simp only [antipoderef1_TakeVar.l0, tv]
      rw [if_pos (by omega), if_neg (by omega), if_neg (by omega)]
      simp only [antipoderef1_TakeVar.j1]
      rw [if_neg (by decide), if_pos (by omega), if_pos (by omega), h1, if_neg (show ¬ (i = 9 ∧ c > 1) by omega), unit_step hcb ha i (by omega) hu hc (by omega), w64_id (x := (i : Int) + 1) (by omega) (by omega)]
      by_cases c2 : c ≥ 128
      · rw [if_neg (by omega), if_pos c2]
        have hp : (0 : Int) < 128 ^ i := Int.pow_pos (by omega)
        have hn : 0 ≤ c % 128 * 128 ^ i := Int.mul_nonneg (by omega) (by omega)
        have hu2 : acc + c % 128 * 128 ^ i < 128 ^ (i + 1) := by
          have h3 : c % 128 * 128 ^ i ≤ 127 * 128 ^ i := Int.mul_le_mul_of_nonneg_right (by omega) (by omega)
          rw [Int.pow_succ]
          omega
        have h8 : (128 : Int) ^ i ≤ 72057594037927936 := by
          have h6 := Nat.pow_le_pow_right (show 1 ≤ 128 by omega) (show i ≤ 8 by omega)
          have h7 : ((128 ^ i : Nat) : Int) ≤ ((72057594037927936 : Nat) : Int) := Int.ofNat_le.2 h6
          rw [Int.natCast_pow] at h7
          exact h7
        rw [show IntKind.u64.wrap (u * 128) = 128 ^ (i + 1) by rw [hu, u64w_id (by omega) (by omega), Int.pow_succ]]
        have := ih k (i + 1) (acc + c % 128 * 128 ^ i) (128 ^ (i + 1)) (by omega) (by omega) (by omega) hu2 rfl
        rw [h3] at this
        rw [← this]
        rfl
      · rw [if_pos (by omega), if_neg c2]
        by_cases c3 : c = 0
        · rw [if_pos c3]
          by_cases c4 : i > 0
          · rw [if_pos (by omega), if_pos ⟨c3, c4⟩]
          · rw [if_neg (by omega), if_neg (by omega)]
        · rw [if_neg c3, if_neg (by omega)]
theorem refTakeVar_calls (k : Nat) {l : List Int} (hk : 24 ≤ k) (hb : Bytes l) (hl : l.length < 140737488355328) : antipoderef1_TakeVar.f k l = some (tv 0 0 l) := by
  unfold antipoderef1_TakeVar.f
  exact refTake_loop l hb hl 9 k 0 0 1 rfl (by omega) (by omega) (by omega) rfl
theorem refTakeText_calls (k : Nat) {l : List Int} (hk : 24 ≤ k) (hb : Bytes l) (hl : l.length < 140737488355328) : antipoderef1_TakeText.f k l = some (tt l) := by
  unfold antipoderef1_TakeText.f
  refine bind_to (refTakeVar_calls k hk hb hl) ?_
  have hr := tv_range l hb 0 0 (by omega) (by omega) (by omega)
  simp only at hr
  obtain ⟨h1, h2, h3, h4, h5, h6⟩ := hr
  unfold tt
  by_cases c0 : (tv 0 0 l).2.2 = 0
  · have h4' := h4 c0
    rw [if_pos c0, if_neg (show ¬ (tv 0 0 l).2.2 ≠ 0 by omega)]
    by_cases c1 : (tv 0 0 l).1 > 1048576
    · rw [if_pos c1, if_pos c1]
    · rw [if_neg c1, if_neg c1, w64_id (x := (tv 0 0 l).1) (by omega) (by omega), w64_id (x := (l.length : Int) - (tv 0 0 l).2.1) (by omega) (by omega), w64_id (by omega) (by omega)]
      by_cases c2 : (l.length : Int) - (tv 0 0 l).2.1 < (tv 0 0 l).1
      · rw [if_pos c2, if_pos (by omega)]
      · rw [if_neg c2, if_neg (by omega)]
        refine bind_to rfl ?_
        rw [if_pos (by omega), if_pos (by omega), if_pos (by omega)]
        refine bind_to rfl ?_
        rw [if_pos (by simp only [List.length_nil, List.length_drop, List.length_take]; omega), List.nil_append]
  · rw [if_neg c0, if_pos c0]
theorem refGet_loop (l : List Int) (hb : Bytes l) (hl : l.length < 140737488355328) (a n : Nat) (hn : n ≤ 8) (han : a + n ≤ l.length) (d : Nat) : ∀ (k i : Nat) (v : Int), i + d = n → d < k → v = gv ((l.drop a).take i) →
    antipoderef1_Get.l0 k l (a : Int) (n : Int) v (i : Int) = some (gv ((l.drop a).take n), 0) := by
  induction d with
  | zero =>
    intro k i v hi hk hv
    obtain ⟨k, rfl⟩ : ∃ m, k = m + 1 := ⟨k - 1, by omega⟩
    simp only [antipoderef1_Get.l0]
    rw [if_neg (by omega), hv, show i = n by omega]
  | succ d ih =>
    intro k i v hi hk hv
    obtain ⟨k, rfl⟩ : ∃ m, k = m + 1 := ⟨k - 1, by omega⟩
    have hlt : a + i < l.length := by omega
    have hc := hb l[a + i] (List.getElem_mem hlt)
    have hg := gv_range ((l.drop a).take i) (fun c h => hb c (List.mem_of_mem_drop (List.mem_of_mem_take h)))
    rw [← hv, List.length_take, Nat.min_eq_left (by rw [List.length_drop]; omega)] at hg
    have hp : (256 : Int) ^ i ≤ 72057594037927936 := by
      have h2 : 256 ^ i ≤ 256 ^ 7 := Nat.pow_le_pow_right (by omega) (by omega)
      have h3 : ((256 ^ i : Nat) : Int) ≤ ((72057594037927936 : Nat) : Int) := Int.ofNat_le.2 h2
      rw [Int.natCast_pow] at h3
      exact h3
    simp only [antipoderef1_Get.l0]
    rw [w64_id (x := (a : Int) + (i : Int)) (by omega) (by omega), show (a : Int) + (i : Int) = ((a + i : Nat) : Int) by omega]
    rw [if_pos (by omega), if_pos (by omega), if_pos (by omega), rd_some hlt, u64w_id (x := v * 256) (by omega) (by omega), u64w_id (x := l[a + i]) (by omega) (by omega), u64w_id (by omega) (by omega), w64_id (by omega) (by omega)]
    refine ih k (i + 1) _ (by omega) (by omega) ?_
    rw [List.take_succ_eq_append_getElem (by rw [List.length_drop]; omega)]
    unfold gv at hv ⊢
    rw [List.foldl_append, ← hv, List.getElem_drop]
    rfl
theorem refGet_calls (k : Nat) {l : List Int} {a n : Int} (hk : 14 ≤ k) (hb : Bytes l) (hl : l.length < 140737488355328) : antipoderef1_Get.f k l a n = some (getS l a n) := by
  obtain ⟨k, rfl⟩ : ∃ m, k = m + 1 + 1 := ⟨k - 2, by omega⟩
  unfold antipoderef1_Get.f getS
  simp only [antipoderef1_Get.j0]
  by_cases c1 : n < 1
  · rw [if_pos c1, if_pos trivial, if_pos (.inl c1)]
  by_cases c2 : n > 8
  · rw [if_neg c1, if_pos c2, if_pos trivial, if_pos (.inr (.inl c2))]
  by_cases c3 : a < 0
  · rw [if_neg c1, if_neg c2, decide_eq_true c3, if_pos rfl, if_pos (.inr (.inr c3))]
  rw [if_neg c1, if_neg c2, decide_eq_false c3, if_neg (by decide), if_neg (show ¬ (n < 1 ∨ n > 8 ∨ a < 0) by omega)]
  simp only [antipoderef1_Get.j1]
  by_cases c4 : a > (l.length : Int)
  · rw [if_pos c4, if_pos trivial, if_pos (by omega)]
  rw [if_neg c4, w64_id (x := (l.length : Int) - a) (by omega) (by omega)]
  by_cases c5 : (l.length : Int) - a < n
  · rw [decide_eq_true c5, if_pos rfl, if_pos (by omega)]
  rw [decide_eq_false c5, if_neg (by decide), if_neg (by omega)]
  obtain ⟨x, rfl⟩ := Int.eq_ofNat_of_zero_le (show 0 ≤ a by omega)
  obtain ⟨m, rfl⟩ := Int.eq_ofNat_of_zero_le (show 0 ≤ n by omega)
  have h := refGet_loop l hb hl x m (by omega) (by omega) m k 0 0 (by omega) (by omega) (by simp [gv])
  rw [show ((0 : Nat) : Int) = 0 from rfl] at h
  rw [h, show ((x : Int) + (m : Int)).toNat = x + m by omega, Int.toNat_natCast, List.drop_take, Nat.add_sub_cancel_left]
end Go.Proofs.Ytdklkeocmjofkaa.QARefSpec

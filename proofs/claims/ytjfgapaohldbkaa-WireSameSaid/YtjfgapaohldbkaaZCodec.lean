/- Numbers and texts as lists of bytes, without any program: what a Var, a text, a number of n bytes are, and what they are read as. Each fact under the bounds that it states. -/
import Derived.Test.YtjfgapaohldbkaaZFacts
namespace Go.Proofs.Ytjfgapaohldbkaa.Codec
open Go.RowKit Go.Proofs.Ytjfgapaohldbkaa.Facts
def venc : Nat → Int → List Int
 | 0, v => [v]
 | n + 1, v => if v < 128 then [v] else (v % 128 + 128) :: venc n (v / 128)
def Bytes (l : List Int) : Prop := ∀ c ∈ l, 0 ≤ c ∧ c < 256
theorem Bytes.append {a b : List Int} (ha : Bytes a) (hb : Bytes b) : Bytes (a ++ b) := fun c hc => by
 rcases List.mem_append.1 hc with h | h
 ·exact ha c h
 ·exact hb c h
theorem venc_bytes (n : Nat) : ∀ v : Int, 0 ≤ v → v < 128 ^ (n + 1) → Bytes (venc n v) := by
 induction n with
 | zero =>
  intro v h0 h1 c hc
  simp [venc] at hc
  subst hc
  exact ⟨h0, by omega⟩
 | succ n ih =>
  intro v h0 h1 c hc
  unfold venc at hc
  by_cases h : v < 128
  ·rw [if_pos h] at hc
   simp at hc
   subst hc
   exact ⟨h0, by omega⟩
  ·rw [if_neg h] at hc
   rcases List.mem_cons.1 hc with rfl | hc
   ·omega
   ·exact ih (v / 128) (by omega) (by rw [Int.pow_succ] at h1; omega) c hc
theorem venc_len (n : Nat) : ∀ v : Int, 1 ≤ (venc n v).length ∧ (venc n v).length ≤ n + 1 := by
 induction n with
 | zero => intro v; simp [venc]
 | succ n ih =>
  intro v
  unfold venc
  by_cases h : v < 128
  ·rw [if_pos h]; simp
  ·rw [if_neg h]
   have := ih (v / 128)
   simp only [List.length_cons]
   omega
def tv : Nat → Int → List Int → Int × Int × Int
 | _, _, [] => (0, 0, 2)
 | i, v, c :: t =>
  if i = 9 ∧ c > 1 then (0, 0, 5)
  else if c ≥ 128 then tv (i + 1) (v + c % 128 * 128 ^ i) t
  else if c = 0 ∧ i > 0 then (0, 0, 9)
  else (v + c % 128 * 128 ^ i, (i : Int) + 1, 0)
theorem tv_venc (rest : List Int) (n : Nat) : ∀ (i : Nat) (acc v : Int), n + i = 9 → 0 ≤ v → v < 128 ^ (n + 1) → v * 128 ^ i < 18446744073709551616 → (0 < v ∨ i = 0) →
  tv i acc (venc n v ++ rest) = (acc + v * 128 ^ i, (i : Int) + ((venc n v).length : Int), 0) := by
 induction n with
 | zero =>
  intro i acc v hi h0 h1 h2 h3
  obtain rfl : i = 9 := by omega
  simp only [venc, List.cons_append, List.nil_append, tv]
  have hv : v < 2 := by
   have : (128 : Int) ^ 9 = 9223372036854775808 := by decide
   rw [this] at h2
   omega
  rw [if_neg (by omega), if_neg (by omega), if_neg (by omega)]
  rw [show v % 128 = v by omega]
  simp
 | succ n ih =>
  intro i acc v hi h0 h1 h2 h3
  unfold venc
  by_cases h : v < 128
  ·rw [if_pos h]
   simp only [List.cons_append, List.nil_append, tv]
   rw [if_neg (by omega), if_neg (by omega), if_neg (by omega), show v % 128 = v by omega]
   simp
  ·rw [if_neg h]
   simp only [List.cons_append, tv]
   rw [if_neg (by omega), if_pos (by omega)]
   have hp : (0 : Int) < 128 ^ i := Int.pow_pos (by omega)
   have e1 : (v % 128 + 128) % 128 = v % 128 := by omega
   have e2 : v * 128 ^ i = v % 128 * 128 ^ i + v / 128 * 128 ^ (i + 1) := by
    have hq : v / 128 * (128 ^ i * 128) = v / 128 * 128 * 128 ^ i := by rw [Int.mul_assoc, Int.mul_comm 128]
    rw [Int.pow_succ, hq, ← Int.add_mul]
    congr 1
    omega
   have h4 : 0 ≤ v % 128 * 128 ^ i := Int.mul_nonneg (by omega) (by omega)
   rw [ih (i + 1) _ (v / 128) (by omega) (by omega) (by rw [Int.pow_succ] at h1; omega) (by omega) (.inl (by omega)), e1]
   rw [e2]
   refine Prod.ext ?_ (Prod.ext ?_ rfl)
   ·show acc + _ + _ = acc + (_ + _)
    omega
   ·show ((i + 1 : Nat) : Int) + ((venc n (v / 128)).length : Int) = (i : Int) + ((_ :: venc n (v / 128)).length : Int)
    simp only [List.length_cons]
    omega
def V (v : Int) : List Int := venc 9 v
theorem V_lt {v : Int} (h : U64 v) : v < 128 ^ (9 + 1) := by
 have := h.2
 have e : (128 : Int) ^ (9 + 1) = 1180591620717411303424 := by decide
 omega
theorem V_bytes {v : Int} (h : U64 v) : Bytes (V v) := venc_bytes 9 v h.1 (V_lt h)
theorem V_len (v : Int) : 1 ≤ (V v).length ∧ (V v).length ≤ 10 := venc_len 9 v
theorem tv_V {v : Int} (h : U64 v) (rest : List Int) : tv 0 0 (V v ++ rest) = (v, ((V v).length : Int), 0) := by
 unfold V
 have h2 := h.2
 rw [tv_venc rest 9 0 0 v rfl h.1 (V_lt h) (by omega) (.inr rfl)]
 simp
theorem tv_range (l : List Int) (hb : Bytes l) : ∀ (i : Nat) (acc : Int), 0 ≤ acc → acc < 128 ^ i → i ≤ 9 →
  let r := tv i acc l
  0 ≤ r.1 ∧ r.1 < 18446744073709551616 ∧ 0 ≤ r.2.1 ∧ (r.2.2 = 0 → r.2.1 ≤ i + l.length ∧ (i : Int) < r.2.1) ∧ (r.2.2 = 0 ∨ (r.1 = 0 ∧ r.2.1 = 0)) ∧ (r.2.2 = 0 ∨ r.2.2 = 2 ∨ r.2.2 = 5 ∨ r.2.2 = 9) := by
 induction l with
 | nil => intro i acc h0 h1 h2; simp [tv]
 | cons c t ih =>
  intro i acc h0 h1 h2
  have hc := hb c (by simp)
  have ht : Bytes t := fun d hd => hb d (by simp [hd])
  have hp : (0 : Int) < 128 ^ i := Int.pow_pos (by omega)
  have hn : 0 ≤ c % 128 * 128 ^ i := Int.mul_nonneg (by omega) (by omega)
  have hu : acc + c % 128 * 128 ^ i < 128 ^ (i + 1) := by
   have h3 : c % 128 * 128 ^ i ≤ 127 * 128 ^ i := Int.mul_le_mul_of_nonneg_right (by omega) (by omega)
   rw [Int.pow_succ]
   omega
  simp only [tv]
  by_cases c1 : i = 9 ∧ c > 1
  ·rw [if_pos c1]; simp
  ·rw [if_neg c1]
   have h9 : (128 : Int) ^ 9 = 9223372036854775808 := by decide
   by_cases c2 : c ≥ 128
   ·rw [if_pos c2]
    have := ih ht (i + 1) (acc + c % 128 * 128 ^ i) (by omega) hu (by omega)
    simp only at this ⊢
    obtain ⟨a1, a2, a3, a4, a5, a6⟩ := this
    refine ⟨a1, a2, a3, fun e => ?_, a5, a6⟩
    have := a4 e
    simp only [List.length_cons]
    omega
   ·rw [if_neg c2]
    by_cases c3 : c = 0 ∧ i > 0
    ·rw [if_pos c3]; simp
    ·rw [if_neg c3]
     refine ⟨by show 0 ≤ acc + _; omega, ?_, by show (0 : Int) ≤ (i : Int) + 1; omega, fun _ => ⟨by show (i : Int) + 1 ≤ _; simp only [List.length_cons]; omega, by show (i : Int) < (i : Int) + 1; omega⟩, .inl rfl, .inl rfl⟩
     show acc + _ < _
     by_cases hi : i = 9
     ·subst hi
      have : c % 128 ≤ 1 := by omega
      have h3 : c % 128 * 128 ^ 9 ≤ 1 * 128 ^ 9 := Int.mul_le_mul_of_nonneg_right this (by omega)
      omega
     ·have h5 : (128 : Int) ^ (i + 1) ≤ 128 ^ 9 := by
       have := Nat.pow_le_pow_right (show 1 ≤ 128 by omega) (show i + 1 ≤ 9 by omega)
       exact_mod_cast this
      omega
def T (s : List Int) : List Int := V (s.length : Int) ++ s
def tt (l : List Int) : List Int × Int × Int :=
 if (tv 0 0 l).2.2 ≠ 0 then ([], 0, (tv 0 0 l).2.2)
 else if (tv 0 0 l).1 > 1048576 then ([], 0, 3)
 else if (tv 0 0 l).1 > (l.length : Int) - (tv 0 0 l).2.1 then ([], 0, 2)
 else ((l.take ((tv 0 0 l).2.1 + (tv 0 0 l).1).toNat).drop (tv 0 0 l).2.1.toNat, (tv 0 0 l).2.1 + (tv 0 0 l).1, 0)
theorem T_len (s : List Int) : (T s).length ≤ s.length + 10 ∧ s.length + 1 ≤ (T s).length := by
 have := V_len (s.length : Int)
 unfold T
 rw [List.length_append]
 omega
theorem T_bytes {s : List Int} (h : Bytes s) (hl : s.length < 18446744073709551616) : Bytes (T s) := (V_bytes ⟨by omega, by omega⟩).append h
theorem tt_T (s rest : List Int) (hs : s.length ≤ 1048576) : tt (T s ++ rest) = (s, ((T s).length : Int), 0) := by
 have hu : U64 (s.length : Int) := ⟨by omega, by omega⟩
 have h1 := tv_V hu (s ++ rest)
 unfold tt T
 rw [List.append_assoc, h1]
 simp only [ne_eq, not_true_eq_false, if_false, List.length_append]
 rw [if_neg (by omega), if_neg (by omega)]
 have e : (((V (s.length : Int)).length : Int) + (s.length : Int)).toNat = (V (s.length : Int)).length + s.length := by omega
 rw [e, Int.toNat_natCast, List.take_append, List.take_append]
 simp
def be : Nat → Int → List Int
 | 0, _ => []
 | n + 1, v => (v / 256 ^ n) % 256 :: be n v
def gv (l : List Int) : Int := l.foldl (fun v c => v * 256 + c) 0
theorem be_len (n : Nat) (v : Int) : (be n v).length = n := by
 induction n with
 | zero => rfl
 | succ n ih => simp [be, ih]
theorem be_bytes (n : Nat) (v : Int) : Bytes (be n v) := by
 induction n with
 | zero => intro c hc; simp [be] at hc
 | succ n ih =>
  intro c hc
  unfold be at hc
  rcases List.mem_cons.1 hc with rfl | hc
  ·omega
  ·exact ih c hc
theorem gv_from (l : List Int) : ∀ x : Int, l.foldl (fun v c => v * 256 + c) x = x * 256 ^ l.length + gv l := by
 unfold gv
 induction l with
 | nil => intro x; simp
 | cons c t ih =>
  intro x
  simp only [List.foldl_cons, List.length_cons]
  rw [ih (x * 256 + c), ih (0 * 256 + c)]
  rw [Int.pow_succ, Int.add_mul, Int.zero_mul, Int.zero_add, Int.mul_comm (256 ^ t.length) 256, ← Int.mul_assoc]
  omega
theorem gv_be (n : Nat) (v : Int) (h0 : 0 ≤ v) : gv (be n v) = v % 256 ^ n := by
 induction n with
 | zero => simp [be, gv]
 | succ n ih =>
  have e : gv (be (n + 1) v) = (v / 256 ^ n % 256) * 256 ^ n + gv (be n v) := by
   have := gv_from (be n v) (v / 256 ^ n % 256)
   rw [be_len] at this
   rw [← this]
   simp [gv, be]
  rw [e, ih]
  have hp : (0 : Int) < 256 ^ n := Int.pow_pos (by omega)
  have h1 : v / 256 ^ n % 256 * 256 ^ n + v % 256 ^ n = v % (256 ^ n * 256) := by
   obtain ⟨m, rfl⟩ := Int.eq_ofNat_of_zero_le h0
   have := Nat.mod_mul (x := m) (a := 256 ^ n) (b := 256)
   have h2 : ((m % (256 ^ n * 256) : Nat) : Int) = ((m % 256 ^ n + 256 ^ n * (m / 256 ^ n % 256) : Nat) : Int) := by rw [this]
   simp only [Int.natCast_add, Int.natCast_mul, Int.natCast_emod, Int.natCast_ediv, Int.natCast_pow, Int.cast_ofNat_Int] at h2
   rw [h2, Int.mul_comm (256 ^ n)]
   omega
  rw [h1, Int.pow_succ]
theorem gv_range (l : List Int) (h : Bytes l) : 0 ≤ gv l ∧ gv l < 256 ^ l.length := by
 induction l with
 | nil => simp [gv]
 | cons c t ih =>
  have hc := h c (by simp)
  have ht := ih (fun d hd => h d (by simp [hd]))
  have e : gv (c :: t) = c * 256 ^ t.length + gv t := by
   have := gv_from t c
   rw [← this]
   simp [gv]
  rw [e, List.length_cons, Int.pow_succ]
  have hp : (0 : Int) < 256 ^ t.length := Int.pow_pos (by omega)
  have h1 : 0 ≤ c * 256 ^ t.length := Int.mul_nonneg hc.1 (by omega)
  have h2 : c * 256 ^ t.length ≤ 255 * 256 ^ t.length := Int.mul_le_mul_of_nonneg_right (by omega) (by omega)
  omega
end Go.Proofs.Ytjfgapaohldbkaa.Codec


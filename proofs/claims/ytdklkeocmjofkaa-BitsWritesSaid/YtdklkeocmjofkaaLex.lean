/- Texts of bytes: when two are the same, and how texts of big-endian numbers stand to each other. Without any program; each fact under the bounds that it states. -/
import Derived.Test.YtdklkeocmjofkaaCodec
import Derived.Lib.Strings
import Derived.Laws.BytesArg
namespace Go.Proofs.Ytdklkeocmjofkaa.Lex
open Go.RowKit Go.Proofs.Ytdklkeocmjofkaa.Facts Go.Proofs.Ytdklkeocmjofkaa.Codec

def strL (l : List Int) : List UInt8 := l.map fun n => UInt8.ofNat n.toNat
theorem str_toList (l : List Int) : (strOfNums l).toList = strL l := by
  rw [Lib.toList_data]; rfl
theorem byte_inj {c d : Int} (hc : 0 ≤ c ∧ c < 256) (hd : 0 ≤ d ∧ d < 256) (h : UInt8.ofNat c.toNat = UInt8.ofNat d.toNat) : c = d := by
  have := congrArg UInt8.toNat h
  simp only [UInt8.toNat_ofNat'] at this
  omega
theorem strL_inj (l : List Int) : ∀ m : List Int, Bytes l → Bytes m → strL l = strL m → l = m := by
  induction l with
  | nil => intro m _ _ h; cases m with
    | nil => rfl
    | cons d t => simp [strL] at h
  | cons c t ih =>
    intro m hl hm h
    cases m with
    | nil => simp [strL] at h
    | cons d u =>
      simp only [strL, List.map_cons, List.cons.injEq] at h
      rw [byte_inj (hl c (by simp)) (hm d (by simp)) h.1, ih u (fun x hx => hl x (by simp [hx])) (fun x hx => hm x (by simp [hx])) h.2]
theorem str_eq_iff {l m : List Int} (hl : Bytes l) (hm : Bytes m) : (strOfNums l).toList = (strOfNums m).toList ↔ l = m := by
  rw [str_toList, str_toList]
  exact ⟨strL_inj l m hl hm, fun h => by rw [h]⟩
theorem byte_lt {c d : Int} (hc : 0 ≤ c ∧ c < 256) (hd : 0 ≤ d ∧ d < 256) : (UInt8.ofNat c.toNat < UInt8.ofNat d.toNat) ↔ c < d := by
  rw [UInt8.lt_iff_toNat_lt]
  simp only [UInt8.toNat_ofNat']
  omega
theorem be_mod (n : Nat) : ∀ (m : Nat) (v : Int), n ≤ m → be n (v % 256 ^ m) = be n v := by
  induction n with
  | zero => intro m v _; rfl
  | succ n ih =>
    intro m v h
    unfold be
    rw [ih m v (by omega)]
    congr 1
    have hp : (0 : Int) < 256 ^ n := Int.pow_pos (by omega)
    obtain ⟨j, rfl⟩ : ∃ j, m = n + 1 + j := ⟨m - (n + 1), by omega⟩
    have e : (256 : Int) ^ (n + 1 + j) = 256 ^ n * (256 * 256 ^ j) := by rw [Int.pow_add, Int.pow_succ, Int.mul_assoc]
    rw [e]
    have h1 : v % (256 ^ n * (256 * 256 ^ j)) = v - 256 ^ n * ((256 * 256 ^ j) * (v / (256 ^ n * (256 * 256 ^ j)))) := by
      rw [Int.emod_def, Int.mul_assoc]
    rw [h1, Int.sub_mul_ediv_left _ _ (by omega)]
    have h2 : (256 * 256 ^ j) * (v / (256 ^ n * (256 * 256 ^ j))) = 256 * (256 ^ j * (v / (256 ^ n * (256 * 256 ^ j)))) := by rw [Int.mul_assoc]
    rw [h2]
    generalize 256 ^ j * (v / (256 ^ n * (256 * 256 ^ j))) = z
    omega
theorem less_cons (a b : UInt8) (x y : List UInt8) : Op.bytesLess (a :: x) (b :: y) = (decide (a < b) || (a == b && Op.bytesLess x y)) := by rw [Op.bytesLess]
theorem be_lex (n : Nat) : ∀ (u v : Int) (x y : List Int), 0 ≤ u → u < 256 ^ n → 0 ≤ v → v < 256 ^ n →
    Op.bytesLess (strL (be n u ++ x)) (strL (be n v ++ y)) = (decide (u < v) || (decide (u = v) && Op.bytesLess (strL x) (strL y))) := by
  induction n with
  | zero =>
    intro u v x y h1 h2 h3 h4
    have : u = 0 := by simp at h2; omega
    have : v = 0 := by simp at h4; omega
    subst_vars
    simp [be]
  | succ n ih =>
    intro u v x y h1 h2 h3 h4
    have hp : (0 : Int) < 256 ^ n := Int.pow_pos (by omega)
    rw [Int.pow_succ] at h2 h4
    have hc : 0 ≤ u / 256 ^ n ∧ u / 256 ^ n < 256 := ⟨Int.ediv_nonneg h1 (by omega), Int.ediv_lt_of_lt_mul hp (by rw [Int.mul_comm]; exact h2)⟩
    have hd : 0 ≤ v / 256 ^ n ∧ v / 256 ^ n < 256 := ⟨Int.ediv_nonneg h3 (by omega), Int.ediv_lt_of_lt_mul hp (by rw [Int.mul_comm]; exact h4)⟩
    have eu := Int.mul_ediv_add_emod u (256 ^ n)
    have ev := Int.mul_ediv_add_emod v (256 ^ n)
    have ru := Int.emod_nonneg u (show (256 : Int) ^ n ≠ 0 by omega)
    have rv := Int.emod_nonneg v (show (256 : Int) ^ n ≠ 0 by omega)
    have lu := Int.emod_lt_of_pos u hp
    have lv := Int.emod_lt_of_pos v hp
    have e1 : be (n + 1) u = (u / 256 ^ n) :: be n (u % 256 ^ n) := by
      rw [be_mod n n u (Nat.le_refl _)]
      show (u / 256 ^ n) % 256 :: be n u = _
      rw [Int.emod_eq_of_lt hc.1 hc.2]
    have e2 : be (n + 1) v = (v / 256 ^ n) :: be n (v % 256 ^ n) := by
      rw [be_mod n n v (Nat.le_refl _)]
      show (v / 256 ^ n) % 256 :: be n v = _
      rw [Int.emod_eq_of_lt hd.1 hd.2]
    have hi := ih (u % 256 ^ n) (v % 256 ^ n) x y ru lu rv lv
    rw [e1, e2]
    generalize u / 256 ^ n = c at *
    generalize v / 256 ^ n = d at *
    generalize u % 256 ^ n = r at *
    generalize v % 256 ^ n = s at *
    generalize (256 : Int) ^ n = p at *
    have hlt : c < d → u < v := by
      intro h
      have : p * (c + 1) ≤ p * d := Int.mul_le_mul_of_nonneg_left (by omega) (by omega)
      rw [Int.mul_add, Int.mul_one] at this
      omega
    have hgt : d < c → v < u := by
      intro h
      have : p * (d + 1) ≤ p * c := Int.mul_le_mul_of_nonneg_left (by omega) (by omega)
      rw [Int.mul_add, Int.mul_one] at this
      omega
    show Op.bytesLess (UInt8.ofNat c.toNat :: strL (be n r ++ x)) (UInt8.ofNat d.toNat :: strL (be n s ++ y)) = _
    rw [less_cons, hi]
    by_cases k1 : c < d
    · rw [decide_eq_true ((byte_lt hc hd).2 k1), decide_eq_true (hlt k1)]; rfl
    · rw [decide_eq_false (fun h => k1 ((byte_lt hc hd).1 h))]
      by_cases k2 : c = d
      · subst k2
        rw [beq_self_eq_true]
        have q1 : (u < v) ↔ (r < s) := by omega
        have q2 : (u = v) ↔ (r = s) := by omega
        have d1 : decide (u < v) = decide (r < s) := decide_eq_decide.2 q1
        have d2 : decide (u = v) = decide (r = s) := decide_eq_decide.2 q2
        rw [d1, d2]
        simp
      · have hne : ¬ UInt8.ofNat c.toNat = UInt8.ofNat d.toNat := fun h => k2 (byte_inj hc hd h)
        have := hgt (by omega)
        rw [beq_eq_false_iff_ne.2 hne, decide_eq_false (show ¬ u < v by omega), decide_eq_false (show ¬ u = v by omega)]
        rfl
theorem be_snoc (n : Nat) : ∀ v : Int, 0 ≤ v → be (n + 1) v = be n (v / 256) ++ [v % 256] := by
  induction n with
  | zero => intro v _; simp [be]
  | succ n ih =>
    intro v h
    have e : be (n + 1 + 1) v = (v / 256 ^ (n + 1)) % 256 :: be (n + 1) v := rfl
    rw [e, ih v h]
    show _ = (v / 256 / 256 ^ n) % 256 :: be n (v / 256) ++ [v % 256]
    rw [Int.ediv_ediv_of_nonneg (by omega), Int.pow_succ, Int.mul_comm 256]
    rfl
end Go.Proofs.Ytdklkeocmjofkaa.Lex

/- Texts of bytes: when two are the same, and how texts of big-endian numbers stand to each other. Without any program; each fact under the bounds that it states. -/
import Derived.Test.YtjfgapaohldbkaaZCodec
import Derived.Lib.Strings
import Derived.Laws.BytesArg
namespace Go.Proofs.Ytjfgapaohldbkaa.Lex
open Go.RowKit Go.Proofs.Ytjfgapaohldbkaa.Facts Go.Proofs.Ytjfgapaohldbkaa.Codec
def strL (l : List Int) : List UInt8 := l.map fun n => UInt8.ofNat n.toNat
theorem str_toList (l : List Int) : (strOfNums l).toList = strL l := by
 rw [Lib.toList_data]; rfl
theorem byte_inj {c d : Int} (hc : 0 ≤ c ∧ c < 256) (hd : 0 ≤ d ∧ d < 256) (h : UInt8.ofNat c.toNat = UInt8.ofNat d.toNat) : c = d := by
 have := congrArg UInt8.toNat h
 simp only [UInt8.toNat_ofNat'] at this
 omega
theorem strL_inj (l : List Int) : ∀ m : List Int, Bytes l → Bytes m → strL l = strL m → l = m := by
 induction l with
 | nil => intro m _ _ h; cases m with
  | nil => rfl
  | cons d t => simp [strL] at h
 | cons c t ih =>
  intro m hl hm h
  cases m with
  | nil => simp [strL] at h
  | cons d u =>
   simp only [strL, List.map_cons, List.cons.injEq] at h
   rw [byte_inj (hl c (by simp)) (hm d (by simp)) h.1, ih u (fun x hx => hl x (by simp [hx])) (fun x hx => hm x (by simp [hx])) h.2]
theorem str_eq_iff {l m : List Int} (hl : Bytes l) (hm : Bytes m) : (strOfNums l).toList = (strOfNums m).toList ↔ l = m := by
 rw [str_toList, str_toList]
 exact ⟨strL_inj l m hl hm, fun h => by rw [h]⟩
theorem be_snoc (n : Nat) : ∀ v : Int, 0 ≤ v → be (n + 1) v = be n (v / 256) ++ [v % 256] := by
 induction n with
 | zero => intro v _; simp [be]
 | succ n ih =>
  intro v h
  have e : be (n + 1 + 1) v = (v / 256 ^ (n + 1)) % 256 :: be (n + 1) v := rfl
  rw [e, ih v h]
  show _ = (v / 256 / 256 ^ n) % 256 :: be n (v / 256) ++ [v % 256]
  rw [Int.ediv_ediv_of_nonneg (by omega), Int.pow_succ, Int.mul_comm 256]
  rfl
end Go.Proofs.Ytjfgapaohldbkaa.Lex


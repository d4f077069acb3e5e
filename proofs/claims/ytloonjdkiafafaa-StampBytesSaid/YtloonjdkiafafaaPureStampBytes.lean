/- StampBytes joined: bytes of stamps are read back, and stand in the order of the stamps, for all stamps and further bytes. No condition beyond the statement's own. -/
import Derived.Test.YtloonjdkiafafaaQAx7
import Derived.Test.YtloonjdkiafafaaQARefPut
namespace Go.Proofs.Ytloonjdkiafafaa.Pure
open Go.RowKit Go.Proofs.Ytloonjdkiafafaa.QA Go.Proofs.YtloonjdkiafafaaW.PrintWords Go.Proofs.YtloonjdkiafafaaW.PrintLast Go.Proofs.YtloonjdkiafafaaW.PrintMore Go.Proofs.Ytloonjdkiafafaa.Facts Go.Proofs.Ytloonjdkiafafaa.Codec Go.Proofs.Ytloonjdkiafafaa.Lex Go.Proofs.Ytloonjdkiafafaa.QAPutSpec

theorem begun_bytes : antipodelaw6_begun.f 24 = some true := by decide +kernel
theorem pow8 : (256 : Int) ^ 8 = 18446744073709551616 := by decide
/-- The bytes of a stamp. -/
def sb (w t : Int) : List Int := be 8 (order w) ++ be 8 (order t)
theorem sb_len (w t : Int) : (sb w t).length = 16 := by unfold sb; rw [List.length_append, be_len, be_len]
theorem sb_bytes (w t : Int) : Bytes (sb w t) := (be_bytes 8 _).append (be_bytes 8 _)
theorem put8 {l : List Int} {v : Int} (hv : U64 v) : putS l v 8 = (l ++ be 8 v, 0) := by
  have := hv.2
  unfold putS
  rw [if_neg (by omega), if_neg (by rw [show (8 : Int).toNat = 8 from rfl, pow8]; omega)]
  rfl
theorem bytes_calls (k : Nat) (hk : 12 ≤ k) {w t : Int} (hw : In64 w) (ht : In64 t) : stamp_Bytes.f k w t = some (sb w t) := by
  unfold stamp_Bytes.f
  refine bind_to (order_calls hw) ?_
  refine bind_to ((put_calls k hk (order_u64 hw) (by simp)).trans (congrArg some (put8 (order_u64 hw)))) ?_
  refine bind_to (order_calls ht) ?_
  refine bind_to ((put_calls k hk (order_u64 ht) (by simp [be_len])).trans (congrArg some (put8 (order_u64 ht)))) ?_
  rfl
theorem refOrder {a : Int} (h : In64 a) : antipoderef1_Order.f a = some (order a) := by
  have h1 := h.1
  have h2 := h.2
  unfold antipoderef1_Order.f order
  by_cases c : a ≥ 0
  · rw [if_pos c]
    congr 1
    rw [u64w_id (x := a) (by omega) (by omega), u64w_id (by omega) (by omega)]
    omega
  · rw [if_neg c]
    congr 1
    rw [w64_id (x := a + 9223372036854775807) (by omega) (by omega), w64_id (by omega) (by omega), u64w_id (by omega) (by omega)]
    omega
theorem eight_calls (k : Nat) (hk : 12 ≤ k) {v : Int} (hv : U64 v) : antipoderef1_Eight.f k v = some (be 8 v) := by
  unfold antipoderef1_Eight.f
  exact bind_to ((refPut_calls k hk hv (by simp)).trans (congrArg some (put8 hv))) rfl
theorem refBytes_calls (k : Nat) (hk : 12 ≤ k) {w t : Int} (hw : In64 w) (ht : In64 t) : antipoderef6_Bytes.f k w t = some (sb w t) := by
  unfold antipoderef6_Bytes.f
  refine bind_to (refOrder hw) (bind_to (eight_calls k hk (order_u64 hw)) (bind_to (refOrder ht) (bind_to (eight_calls k hk (order_u64 ht)) ?_)))
  rw [be_len, be_len, if_pos (by omega)]
  rfl
theorem take_sb (w t : Int) : (sb w t).take 8 = be 8 (order w) ∧ (sb w t).drop 8 = be 8 (order t) := by
  unfold sb
  have h := be_len 8 (order w)
  constructor
  · rw [List.take_append_of_le_length (by omega), List.take_of_length_le (by omega)]
  · rw [List.drop_append_of_le_length (by omega), List.drop_of_length_le (by omega), List.nil_append]
theorem gv_order {a : Int} (h : In64 a) : gv (be 8 (order a)) = order a := by
  have hu := order_u64 h
  rw [gv_be 8 _ hu.1, pow8]
  exact Int.emod_eq_of_lt hu.1 hu.2
theorem unorder {a : Int} (h : In64 a) : bits_Back.f (order a) = some a := by
  rw [back_calls (order_u64 h)]
  unfold order
  exact congrArg some (by omega)
theorem stake_calls (k : Nat) (hk : 12 ≤ k) {w t : Int} (hw : In64 w) (ht : In64 t) : stamp_Take.f k (sb w t) = some (w, t, 0) := by
  have hl := sb_len w t
  have g1 : getS (sb w t) 0 8 = (order w, 0) := by
    unfold getS
    rw [if_neg (by omega), if_neg (by omega), show ((0 : Int) + 8).toNat = 8 from rfl, show (0 : Int).toNat = 0 from rfl, (take_sb w t).1, List.drop_zero, gv_order hw]
  have g2 : getS (sb w t) 8 8 = (order t, 0) := by
    unfold getS
    rw [if_neg (by omega), if_neg (by omega), show ((8 : Int) + 8).toNat = 16 from rfl, show (8 : Int).toNat = 8 from rfl, List.take_of_length_le (by omega), (take_sb w t).2, gv_order ht]
  unfold stamp_Take.f
  rw [if_neg (by omega), if_neg (by omega)]
  refine bind_to ((get_calls k hk (sb_bytes w t) (by omega)).trans (congrArg some g1)) ?_
  refine bind_to ((get_calls k hk (sb_bytes w t) (by omega)).trans (congrArg some g2)) ?_
  exact bind_to (unorder hw) (bind_to (unorder ht) rfl)
theorem stake_long (k : Nat) {l : List Int} (h : 16 < l.length) : stamp_Take.f k l = some (0, 0, 3) := by
  unfold stamp_Take.f
  rw [if_neg (by omega), if_pos (by omega)]
/-- Which stamp is the lesser one. -/
def lessB (a b c d : Int) : Bool := decide (a < c) || (decide (a = c) && decide (b < d))
theorem cmp_calls (a b : Int) : cmp_Compare_int64.f a b = some (if a < b then -1 else if a > b then 1 else 0) := by
  unfold cmp_Compare_int64.f
  have h : ∀ x : Int, cmp_isNaN_int64.f x = some false := fun x => by unfold cmp_isNaN_int64.f; simp
  rw [h, h]
  simp only [Option.bind_some]
  rw [if_neg (by decide), if_neg (by decide)]
  split
  · rfl
  · split <;> rfl
theorem or2 (k : Nat) (x y : Int) : cmp_Or_int.f (k + 1 + 1 + 1) [x, y] = some (if x = 0 then y else x) := by
  unfold cmp_Or_int.f
  simp only [cmp_Or_int.l0, List.length_cons, List.length_nil]
  have r0 : rd [x, y] 0 = x := rfl
  have r1 : rd [x, y] 1 = y := rfl
  rw [if_pos (by omega), if_pos (by omega), if_pos (by omega), r0]
  by_cases h : x = 0
  · rw [if_pos h, if_pos h, w64_id (by omega) (by omega), show (0 : Int) + 1 = 1 from rfl, if_pos (by omega), if_pos (by omega), if_pos (by omega), r1]
    by_cases h2 : y = 0
    · rw [if_pos h2, w64_id (by omega) (by omega), if_neg (by omega), h2]
    · rw [if_neg h2]
  · rw [if_neg h, if_neg h]
theorem less_calls (k : Nat) (a b c d : Int) : stamp_Less.f (k + 1 + 1 + 1) a b c d = some (lessB a b c d) := by
  unfold stamp_Less.f
  refine bind_to (cmp_calls a c) (bind_to (cmp_calls b d) (bind_to (or2 k _ _) ?_))
  unfold lessB
  refine congrArg some ?_
  rw [Bool.eq_iff_iff]
  simp only [decide_eq_true_eq, Bool.or_eq_true, Bool.and_eq_true]
  (repeat' split) <;> omega
theorem sb_less {a b c d : Int} (ha : In64 a) (hb : In64 b) (hc : In64 c) (hd : In64 d) : Op.bytesLess (strOfNums (sb a b)).toList (strOfNums (sb c d)).toList = lessB a b c d := by
  rw [str_toList, str_toList]
  unfold sb
  have ua := order_u64 ha
  have ub := order_u64 hb
  have uc := order_u64 hc
  have ud := order_u64 hd
  rw [be_lex 8 _ _ _ _ ua.1 (by rw [pow8]; exact ua.2) uc.1 (by rw [pow8]; exact uc.2)]
  have h := be_lex 8 (order b) (order d) [] [] ub.1 (by rw [pow8]; exact ub.2) ud.1 (by rw [pow8]; exact ud.2)
  rw [List.append_nil, List.append_nil] at h
  rw [h]
  have e0 : Op.bytesLess (strL []) (strL []) = false := by simp [strL, Op.bytesLess]
  rw [e0]
  unfold lessB order
  rw [Bool.eq_iff_iff]
  simp only [decide_eq_true_eq, Bool.or_eq_true, Bool.and_eq_true, Bool.and_false, Bool.or_false]
  omega

theorem bytes_f (k : Nat) (hk : 12 ≤ k) (hb0 : antipodelaw6_begun.f (k + 1 + 1 + 1) = some true) {a b c d : Int} (l : List Int) (ha : In64 a) (hb : In64 b) (hc : In64 c) (hd : In64 d) : antipodelaw6_StampBytes.f (k + 1 + 1 + 1) a b c d l = some true := by
  unfold antipodelaw6_StampBytes.f
  refine bind_to hb0 ?_
  rw [if_pos rfl]
  by_cases c1 : (l.length : Int) > 100
  · rw [if_pos c1]
  rw [if_neg c1]
  have hl := sb_len a b
  refine bind_to (bytes_calls _ (by omega) ha hb) (bind_to (bytes_calls _ (by omega) hc hd) (bind_to (stake_calls _ (by omega) ha hb) (bind_to rfl ?_)))
  rw [if_pos (by rw [List.length_nil]; omega)]
  refine bind_to rfl ?_
  rw [List.nil_append, if_pos (by omega)]
  have h3 : ∃ e, stamp_Take.f (k + 1 + 1 + 1) (sb a b ++ l) = some e ∧ ((e.2.2 == 0) == ((l.length : Int) == 0)) = true := by
    by_cases e : l = []
    · subst e
      rw [List.append_nil]
      exact ⟨_, stake_calls _ (by omega) ha hb, by simp⟩
    · have : 0 < l.length := List.length_pos_iff.2 e
      refine ⟨_, stake_long _ (by rw [List.length_append]; omega), ?_⟩
      have h0 : ((l.length : Int) == 0) = false := beq_eq_false_iff_ne.2 (by omega)
      rw [h0]
      rfl
  obtain ⟨e, he, h3⟩ := h3
  refine bind_to he ?_
  rw [if_pos (by omega), if_pos rfl, if_pos (by simp), if_pos h3]
  refine bind_to (less_calls k a b c d) ?_
  rw [sb_less ha hb hc hd, if_pos (by simp)]
  refine bind_to (refBytes_calls _ (by omega) ha hb) ?_
  rw [beq_self_eq_true]
theorem bytes_walk (a b c d : Int) (A : Option Addr) (len cap : Nat) (z : List Int) (w : World) (ha : (Lit.int .i64 a).wf = true) (hb : (Lit.int .i64 b).wf = true) (hc : (Lit.int .i64 c).wf = true) (hd : (Lit.int .i64 d).wf = true)
    (hz : (A = none ∧ len = 0 ∧ cap = 0 ∧ z = []) ∨ ∃ x, A = some x ∧ len ≤ cap ∧ cap ≤ maxLen ∧ z.length = cap ∧ (∀ i, i < z.length → w.cell? (x.add i) = some (.int .u8 (z.getD i 0))) ∧ ∀ n ∈ z, (Lit.int .u8 n).wf = true) :
    Calls Try.prog 9 #[.agg #[.int .i64 a, .int .i64 b], .agg #[.int .i64 c, .int .i64 d], .slice A len cap] w fun e w' => e = .returned (.bool true) ∧ Below w.heap.size w w' := by
  obtain ⟨l2, rfl, hr2, hm2, hw2, hc2⟩ := ReadsInt.ofRowC hz
  exact antipodelaw6_StampBytes.calls 24 a b c d _ _ l2 true w (Kd.C_of_reads (d := (0 : Int)) (h1 := fun _ => rfl) hr2) hc2 ⟨rfl⟩ (bytes_f 21 (by omega) begun_bytes l2 (in64_of_wf ha) (in64_of_wf hb) (in64_of_wf hc) (in64_of_wf hd))
end Go.Proofs.Ytloonjdkiafafaa.Pure

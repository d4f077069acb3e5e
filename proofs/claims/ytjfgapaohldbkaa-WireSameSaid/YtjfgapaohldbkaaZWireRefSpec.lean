/- What the printed functions of the document under wire come to, said by the plain codec of wire. Each under the bounds that it states. -/
import Derived.Test.YtjfgapaohldbkaaZQAx12
import Derived.Test.YtjfgapaohldbkaaZQAx18
import Derived.Test.YtjfgapaohldbkaaZQAx13
import Derived.Test.YtjfgapaohldbkaaZQAx19
import Derived.Test.YtjfgapaohldbkaaZWireSpec
import Derived.Test.YtjfgapaohldbkaaZQARefSpec
import Derived.Test.YtjfgapaohldbkaaZQARefPut
namespace Go.Proofs.Ytjfgapaohldbkaa.WireRefSpec
open Go.RowKit Go.Proofs.Ytjfgapaohldbkaa.QA Go.Proofs.YtjfgapaohldbkaaW.PrintWords Go.Proofs.Ytjfgapaohldbkaa.Facts Go.Proofs.Ytjfgapaohldbkaa.Codec Go.Proofs.Ytjfgapaohldbkaa.WireC Go.Proofs.Ytjfgapaohldbkaa.QASpec Go.Proofs.Ytjfgapaohldbkaa.QAPutSpec Go.Proofs.Ytjfgapaohldbkaa.QARefSpec Go.Proofs.Ytjfgapaohldbkaa.WireSpec
theorem zig_ref {a : Int} (h : In64 a) : antipoderef1_Zig.f a = some (zig a) := by
 have h1 := h.1
 have h2 := h.2
 unfold antipoderef1_Zig.f zig
 by_cases c : 0 ≤ a
 ·rw [if_pos c, if_pos (by omega)]
  congr 1
  rw [u64w_id (x := a) (by omega) (by omega), u64w_id (by omega) (by omega)]
 ·rw [if_neg c, if_neg (by omega)]
  congr 1
  rw [w64_id (x := a + 1) (by omega) (by omega), w64_id (x := -(a + 1)) (by omega) (by omega), u64w_id (x := -(a + 1)) (by omega) (by omega), u64w_id (x := 2 * -(a + 1)) (by omega) (by omega), u64w_id (by omega) (by omega)]
  omega
theorem refOrder {a : Int} (h : In64 a) : antipoderef1_Order.f a = some (order a) := by
 have h1 := h.1
 have h2 := h.2
 unfold antipoderef1_Order.f order
 by_cases c : a ≥ 0
 ·rw [if_pos c]
  congr 1
  rw [u64w_id (x := a) (by omega) (by omega), u64w_id (by omega) (by omega)]
  omega
 ·rw [if_neg c]
  congr 1
  rw [w64_id (x := a + 9223372036854775807) (by omega) (by omega), w64_id (by omega) (by omega), u64w_id (by omega) (by omega)]
  omega
theorem eight_calls (k : Nat) (hk : 12 ≤ k) {v : Int} (hv : U64 v) : antipoderef1_Eight.f k v = some (be 8 v) := by
 unfold antipoderef1_Eight.f
 exact bind_to ((refPut_calls k hk hv (by simp)).trans (congrArg some (put8 hv))) rfl
theorem refStamp_calls (k : Nat) (hk : 12 ≤ k) {x : S25} (hw : In64 x.f0) (ht : In64 x.f1) : antipoderef6_Bytes.f k x.f0 x.f1 = some (eS x) := by
 unfold antipoderef6_Bytes.f
 refine bind_to (refOrder hw) (bind_to (eight_calls k hk (order_u64 hw)) (bind_to (refOrder ht) (bind_to (eight_calls k hk (order_u64 ht)) ?_)))
 rw [be_len, be_len, if_pos (by omega)]
 rfl
end Go.Proofs.Ytjfgapaohldbkaa.WireRefSpec


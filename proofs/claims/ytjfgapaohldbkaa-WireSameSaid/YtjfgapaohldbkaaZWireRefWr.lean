/- What the document's printed writers under wire come to: the bytes that the plain codec says. Each under the bounds that it states. -/
import Derived.Test.YtjfgapaohldbkaaZQAx15
import Derived.Test.YtjfgapaohldbkaaZQAx12
import Derived.Test.YtjfgapaohldbkaaZQAx13
import Derived.Test.YtjfgapaohldbkaaZQAx14
import Derived.Test.YtjfgapaohldbkaaZWireWr
import Derived.Test.YtjfgapaohldbkaaZWireRefSpec
namespace Go.Proofs.Ytjfgapaohldbkaa.WireRefWr
open Go.RowKit Go.Proofs.Ytjfgapaohldbkaa.QA Go.Proofs.YtjfgapaohldbkaaW.PrintWords Go.Proofs.Ytjfgapaohldbkaa.Facts Go.Proofs.Ytjfgapaohldbkaa.Codec Go.Proofs.Ytjfgapaohldbkaa.WireC Go.Proofs.Ytjfgapaohldbkaa.WireLaw Go.Proofs.Ytjfgapaohldbkaa.WireSpec Go.Proofs.Ytjfgapaohldbkaa.WireRefSpec Go.Proofs.Ytjfgapaohldbkaa.WireWr Go.Proofs.Ytjfgapaohldbkaa.QARefSpec
set_option linter.unusedSimpArgs false
set_option linter.unusedVariables false
theorem n_f (k : Nat) {l : List Int} {x : Int} (hk : 10 ≤ k) (hx : In64 x) (hl : l.length + 10 < 140737488355328) : antipoderef14_n.f k l x = some (l ++ eN x) := by
 unfold antipoderef14_n.f
 exact bind_to (zig_ref hx) (bind_to (refVar_calls k hk (zig_u64 hx) hl) rfl)
theorem y_f (k : Nat) {l : List Int} {x : S23} (hk : 10 ≤ k) (hx : gY x) (hl : l.length + 60 < 140737488355328) : antipoderef14_y.f k l x.f0 x.f1 x.f2 x.f3 = some (l ++ eY x) := by
 have e0 := eN_len x.f0
 have e1 := eN_len x.f1
 have e2 := eN_len x.f2
 unfold antipoderef14_y.f
 refine bind_to (n_f k hk hx.1 (by omega)) (bind_to (n_f k hk hx.2.1 (by simp only [List.length_append]; omega)) (bind_to (n_f k hk hx.2.2.1 (by simp only [List.length_append]; omega)) (bind_to (n_f k hk hx.2.2.2 (by simp only [List.length_append]; omega)) ?_)))
 unfold eY
 simp only [List.append_assoc]
theorem s_f (k : Nat) {l : List Int} {x : S25} (hk : 12 ≤ k) (hx : gS x) (hl : l.length + 16 < 140737488355328) : antipoderef14_s.f k l x.f0 x.f1 = some (l ++ eS x) := by
 unfold antipoderef14_s.f
 refine bind_to (refStamp_calls k hk hx.1 hx.2) ?_
 rw [eS_len, if_pos hl]
theorem f_f {l : List Int} {b : Bool} (hl : l.length < 140737488355328) : antipoderef14_f.f l b = some (l ++ eF b) := by
 unfold antipoderef14_f.f
 cases b
 ·rw [if_neg (by decide), if_pos hl]; rfl
 ·rw [if_pos rfl, if_pos hl]; rfl
theorem t_f (k : Nat) {l : List Int} {s : ByteArray} (hk : 10 ≤ k) (hl : l.length + (eT s).length + 10 < 140737488355328) : antipoderef14_t.f k l s = some (l ++ eT s) := by
 have := eT_len s
 unfold antipoderef14_t.f
 exact refText_calls k hk (by rw [bytesOf_length]; omega)
def L1 (c : CmdV) (k : Nat) (acc : List Int) (i : Int) : Option (List Int) := antipoderef14_Cmd.l1 k acc i c.kind c.epoch c.node c.home c.by_.f0 c.by_.f1 c.by_.f2 c.by_.f3 c.at_.f0 c.at_.f1 c.wall c.yes c.spans c.writes
def L0 (c : CmdV) (k : Nat) (acc : List Int) (i : Int) : Option (List Int) := antipoderef14_Cmd.l0 k acc i c.kind c.epoch c.node c.home c.by_.f0 c.by_.f1 c.by_.f2 c.by_.f3 c.at_.f0 c.at_.f1 c.wall c.yes c.spans c.writes
theorem writesR_loop (c : CmdV) (hs : c.writes.length < 140737488355328) (d : Nat) : ∀ (k i : Nat) (acc : List Int), i + d = c.writes.length → d + 16 < k → acc.length + ((c.writes.drop i).flatMap eWrite).length + 20 < 140737488355328 → L1 c k acc (i : Int) = some (acc ++ (c.writes.drop i).flatMap eWrite) := by
 induction d with
 | zero =>
  intro k i acc hi hk ha
  obtain ⟨k, rfl⟩ : ∃ m, k = m + 1 := ⟨k - 1, by omega⟩
  simp only [L1, antipoderef14_Cmd.l1]
  rw [if_neg (by omega), List.drop_of_length_le (by omega), List.flatMap_nil, List.append_nil]
 | succ d ih =>
  intro k i acc hi hk ha
  obtain ⟨k, rfl⟩ : ∃ m, k = m + 1 := ⟨k - 1, by omega⟩
  have h0 : i < c.writes.length := by omega
  rw [List.drop_eq_getElem_cons h0, List.flatMap_cons, List.length_append] at ha
  have hw : (eWrite c.writes[i]).length = (eT c.writes[i].f0).length + 1 + (eT c.writes[i].f2).length := by unfold eWrite; rw [List.length_append, List.length_append, eF_len]
  simp only [L1, antipoderef14_Cmd.l1]
  rw [if_pos (by omega), if_pos (by omega), rd67 h0]
  refine bind_to (t_f k (by omega) (by omega)) (bind_to (f_f (by rw [List.length_append]; omega)) (bind_to (t_f k (by omega) (by simp only [List.length_append, eF_len]; omega)) ?_))
  rw [w64_id (by omega) (by omega), List.drop_eq_getElem_cons h0, List.flatMap_cons]
  refine (ih k (i + 1) _ (by omega) (by omega) (by simp only [List.length_append, eF_len]; omega)).trans (congrArg some ?_)
  unfold eWrite
  simp only [List.append_assoc]
theorem spansR_loop (c : CmdV) (hs : c.spans.length < 140737488355328) (hws : c.writes.length < 140737488355328) (d : Nat) : ∀ (k i : Nat) (acc : List Int), i + d = c.spans.length → d + c.writes.length + 20 < k → acc.length + ((c.spans.drop i).flatMap eSpan).length + (eL eWrite c.writes).length + 40 < 140737488355328 →
  L0 c k acc (i : Int) = some (acc ++ (c.spans.drop i).flatMap eSpan ++ eL eWrite c.writes) := by
 induction d with
 | zero =>
  intro k i acc hi hk ha
  obtain ⟨k, rfl⟩ : ∃ m, k = m + 1 := ⟨k - 1, by omega⟩
  have hn := eN_len (c.writes.length : Int)
  have hel : (eL eWrite c.writes).length = (eN (c.writes.length : Int)).length + (c.writes.flatMap eWrite).length := by unfold eL; rw [List.length_append]
  rw [List.drop_of_length_le (by omega), List.flatMap_nil, List.length_nil] at ha
  simp only [L0, antipoderef14_Cmd.l0]
  rw [if_neg (by omega), List.drop_of_length_le (by omega), List.flatMap_nil, List.append_nil]
  refine bind_to (n_f k (by omega) ⟨by omega, by omega⟩ (by omega)) ?_
  have := writesR_loop c hws c.writes.length k 0 (acc ++ eN (c.writes.length : Int)) (by omega) (by omega) (by rw [List.drop_zero, List.length_append]; omega)
  rw [List.drop_zero] at this
  refine this.trans (congrArg some ?_)
  unfold eL
  rw [List.append_assoc]
 | succ d ih =>
  intro k i acc hi hk ha
  obtain ⟨k, rfl⟩ : ∃ m, k = m + 1 := ⟨k - 1, by omega⟩
  have h0 : i < c.spans.length := by omega
  rw [List.drop_eq_getElem_cons h0, List.flatMap_cons, List.length_append] at ha
  have hw : (eSpan c.spans[i]).length = (eT c.spans[i].f0).length + (eT c.spans[i].f1).length := by unfold eSpan; rw [List.length_append]
  simp only [L0, antipoderef14_Cmd.l0]
  rw [if_pos (by omega), if_pos (by omega), rd65 h0]
  refine bind_to (t_f k (by omega) (by omega)) (bind_to (t_f k (by omega) (by simp only [List.length_append]; omega)) ?_)
  rw [w64_id (by omega) (by omega), List.drop_eq_getElem_cons h0, List.flatMap_cons]
  refine (ih k (i + 1) _ (by omega) (by omega) (by simp only [List.length_append]; omega)).trans (congrArg some ?_)
  unfold eSpan
  simp only [List.append_assoc]
def cmdR (k : Nat) (c : CmdV) : Option (List Int) := antipoderef14_Cmd.f k c.kind c.epoch c.node c.home c.by_.f0 c.by_.f1 c.by_.f2 c.by_.f3 c.at_.f0 c.at_.f1 c.wall c.yes c.spans c.writes
theorem cmdR_f (c : CmdV) (k : Nat) (hk : c.spans.length + c.writes.length + 40 ≤ k) (hg : gCmd0 c) (hs : c.spans.length < 140737488355328) (hws : c.writes.length < 140737488355328) (hl : (eCmd c).length + 200 < 140737488355328) : cmdR k c = some (eCmd c) := by
 obtain ⟨h1, h2, h3, h4, h5, h6, h7⟩ := hg
 have e1 := eN_len c.kind
 have e2 := eN_len c.epoch
 have e3 := eN_len c.node
 have e4 := eN_len c.home
 have e5 := eY_len c.by_
 have e6 := eS_len c.at_
 have e7 := eN_len c.wall
 have e8 := eN_len (c.spans.length : Int)
 have es : (eL eSpan c.spans).length = (eN (c.spans.length : Int)).length + (c.spans.flatMap eSpan).length := by unfold eL; rw [List.length_append]
 have el : (eCmd c).length = 1 + (eN c.kind).length + (eN c.epoch).length + (eN c.node).length + (eN c.home).length + (eY c.by_).length + (eS c.at_).length + (eN c.wall).length + 1 + (eL eSpan c.spans).length + (eL eWrite c.writes).length := by
  unfold eCmd
  simp only [List.length_append, eF_len, List.length_cons, List.length_nil]
  try omega
 unfold cmdR antipoderef14_Cmd.f
 have hz : ([1] : List Int).length = 1 := rfl
 refine bind_to (n_f k (by omega) h1 (by omega)) (bind_to (n_f k (by omega) h2 (by simp only [List.length_append]; omega)) (bind_to (n_f k (by omega) h3 (by simp only [List.length_append]; omega)) (bind_to (n_f k (by omega) h4 (by simp only [List.length_append]; omega)) ?_)))
 refine bind_to (y_f k (by omega) h5 (by simp only [List.length_append]; omega)) ?_
 refine bind_to (s_f k (by omega) h6 (by simp only [List.length_append]; omega)) ?_
 refine bind_to (n_f k (by omega) h7 (by simp only [List.length_append]; omega)) ?_
 refine bind_to (f_f (by simp only [List.length_append]; omega)) ?_
 refine bind_to (n_f k (by omega) ⟨by omega, by omega⟩ (by simp only [List.length_append, eF_len]; omega)) ?_
 have := spansR_loop c hs hws c.spans.length k 0 ([1] ++ eN c.kind ++ eN c.epoch ++ eN c.node ++ eN c.home ++ eY c.by_ ++ eS c.at_ ++ eN c.wall ++ eF c.yes ++ eN (c.spans.length : Int)) (by omega) (by omega) (by rw [List.drop_zero]; simp only [List.length_append, eF_len]; omega)
 rw [List.drop_zero] at this
 refine this.trans (congrArg some ?_)
 unfold eCmd eL
 simp only [List.append_assoc]
end Go.Proofs.Ytjfgapaohldbkaa.WireRefWr


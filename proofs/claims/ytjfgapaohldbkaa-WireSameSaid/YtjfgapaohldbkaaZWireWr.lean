/- What the printed writers of package wire come to: the bytes that the plain codec says. Each under the bounds that it states. -/
import Derived.Test.YtjfgapaohldbkaaZQAx9
import Derived.Test.YtjfgapaohldbkaaZQAx8
import Derived.Test.YtjfgapaohldbkaaZWireLaw
import Derived.Test.YtjfgapaohldbkaaZWireSpec
namespace Go.Proofs.Ytjfgapaohldbkaa.WireWr
open Go.RowKit Go.Proofs.Ytjfgapaohldbkaa.QA Go.Proofs.YtjfgapaohldbkaaW.PrintWords Go.Proofs.Ytjfgapaohldbkaa.Facts Go.Proofs.Ytjfgapaohldbkaa.Codec Go.Proofs.Ytjfgapaohldbkaa.WireC Go.Proofs.Ytjfgapaohldbkaa.WireLaw Go.Proofs.Ytjfgapaohldbkaa.WireSpec Go.Proofs.Ytjfgapaohldbkaa.QASpec
set_option linter.unusedSimpArgs false
set_option linter.unusedVariables false
theorem eN_len (a : Int) : 1 ≤ (eN a).length ∧ (eN a).length ≤ 10 := V_len _
theorem eS_len (x : S25) : (eS x).length = 16 := by unfold eS; rw [List.length_append, be_len, be_len]
theorem eT_len (s : ByteArray) : s.size + 1 ≤ (eT s).length ∧ (eT s).length ≤ s.size + 10 := by
 have := T_len (bytesOf s)
 rw [bytesOf_length] at this
 exact ⟨this.2, this.1⟩
theorem eF_len (b : Bool) : (eF b).length = 1 := rfl
theorem eY_len (x : S23) : (eY x).length ≤ 40 := by
 have := eN_len x.f0
 have := eN_len x.f1
 have := eN_len x.f2
 have := eN_len x.f3
 unfold eY
 simp only [List.length_append]
 omega
theorem rd_nat {l : List Int} {i : Nat} (h : i < l.length) : rd l (i : Int) = l[i] := by
 unfold rd
 rw [Int.toNat_natCast, List.getD_eq_getElem?_getD, List.getElem?_eq_getElem h]
 rfl
theorem num_loop (xs : List Int) (hx : ∀ x ∈ xs, In64 x) (hs : xs.length < 140737488355328) (d : Nat) : ∀ (k i : Nat) (acc : List Int), i + d = xs.length → d + 11 < k → acc.length + 10 * d + 10 < 140737488355328 → wire_num.l0 k acc xs (xs.length : Int) (i : Int) = some (acc ++ (xs.drop i).flatMap eN) := by
 induction d with
 | zero =>
  intro k i acc hi hk ha
  obtain ⟨k, rfl⟩ : ∃ m, k = m + 1 := ⟨k - 1, by omega⟩
  simp only [wire_num.l0]
  rw [if_neg (by omega), List.drop_of_length_le (by omega), List.flatMap_nil, List.append_nil]
 | succ d ih =>
  intro k i acc hi hk ha
  obtain ⟨k, rfl⟩ : ∃ m, k = m + 1 := ⟨k - 1, by omega⟩
  have h0 : i < xs.length := by omega
  have hin := hx xs[i] (List.getElem_mem h0)
  have hl := eN_len xs[i]
  simp only [wire_num.l0]
  rw [if_pos (by omega), if_pos (by omega), if_pos (by omega), rd_nat h0]
  refine bind_to (zig_calls hin) (bind_to (var_calls k (by omega) (zig_u64 hin) (by omega)) ?_)
  rw [w64_id (by omega) (by omega), List.drop_eq_getElem_cons h0, List.flatMap_cons, ← List.append_assoc]
  exact ih k (i + 1) _ (by omega) (by omega) (by rw [List.length_append]; unfold eN at hl; omega)
theorem num_f (k : Nat) {l xs : List Int} (hk : xs.length + 12 ≤ k) (hx : ∀ x ∈ xs, In64 x) (hl : l.length + 10 * xs.length + 10 < 140737488355328) : wire_num.f k l xs = some (l ++ xs.flatMap eN) := by
 unfold wire_num.f
 have := num_loop xs hx (by omega) xs.length k 0 l (by omega) (by omega) hl
 rw [List.drop_zero] at this
 exact this
theorem num1 (k : Nat) {l : List Int} {x : Int} (hk : 13 ≤ k) (hx : In64 x) (hl : l.length + 20 < 140737488355328) : wire_num.f k l [x] = some (l ++ eN x) := by
 have := num_f k (l := l) (xs := [x]) (by simpa using hk) (fun y hy => by rw [List.mem_singleton.1 hy]; exact hx) (by simpa using hl)
 rw [this]
 simp
theorem ints_loop (xs : List Int) (hx : ∀ x ∈ xs, In64 x) (hs : xs.length < 140737488355328) (d : Nat) : ∀ (k i : Nat) (acc : List Int), i + d = xs.length → d + 13 < k → acc.length + 10 * d + 20 < 140737488355328 → wire_ints.l0 k acc xs (xs.length : Int) (i : Int) = some (acc ++ (xs.drop i).flatMap eN) := by
 induction d with
 | zero =>
  intro k i acc hi hk ha
  obtain ⟨k, rfl⟩ : ∃ m, k = m + 1 := ⟨k - 1, by omega⟩
  simp only [wire_ints.l0]
  rw [if_neg (by omega), List.drop_of_length_le (by omega), List.flatMap_nil, List.append_nil]
 | succ d ih =>
  intro k i acc hi hk ha
  obtain ⟨k, rfl⟩ : ∃ m, k = m + 1 := ⟨k - 1, by omega⟩
  have h0 : i < xs.length := by omega
  have hin := hx xs[i] (List.getElem_mem h0)
  have hl := eN_len xs[i]
  simp only [wire_ints.l0]
  rw [if_pos (by omega), if_pos (by omega), if_pos (by omega), rd_nat h0]
  refine bind_to (num1 k (by omega) hin (by omega)) ?_
  rw [w64_id (by omega) (by omega), List.drop_eq_getElem_cons h0, List.flatMap_cons, ← List.append_assoc]
  exact ih k (i + 1) _ (by omega) (by omega) (by rw [List.length_append]; omega)
theorem ints_f (k : Nat) {l xs : List Int} (hk : xs.length + 14 ≤ k) (hx : ∀ x ∈ xs, In64 x) (hl : l.length + 10 * xs.length + 20 < 140737488355328) : wire_ints.f k l xs = some (l ++ xs.flatMap eN) := by
 unfold wire_ints.f
 have := ints_loop xs hx (by omega) xs.length k 0 l (by omega) (by omega) hl
 rw [List.drop_zero] at this
 exact this
theorem ints1 (k : Nat) {l : List Int} {x : Int} (hk : 15 ≤ k) (hx : In64 x) (hl : l.length + 30 < 140737488355328) : wire_ints.f k l [x] = some (l ++ eN x) := by
 have := ints_f k (l := l) (xs := [x]) (by simpa using hk) (fun y hy => by rw [List.mem_singleton.1 hy]; exact hx) (by simpa using hl)
 rw [this]
 simp
theorem ints4 (k : Nat) {l : List Int} {a b c d : Int} (hk : 18 ≤ k) (ha : In64 a) (hb : In64 b) (hc : In64 c) (hd : In64 d) (hl : l.length + 60 < 140737488355328) : wire_ints.f k l [a, b, c, d] = some (l ++ (eN a ++ eN b ++ eN c ++ eN d)) := by
 have := ints_f k (l := l) (xs := [a, b, c, d]) (by simpa using hk) (fun z hz => by simp only [List.mem_cons, List.not_mem_nil, or_false] at hz; rcases hz with rfl | rfl | rfl | rfl <;> assumption) (by simpa using hl)
 rw [this]
 simp
theorem try_f (k : Nat) {l : List Int} {x : S23} (hk : 18 ≤ k) (hx : gY x) (hl : l.length + 60 < 140737488355328) : wire_try.f k l x.f0 x.f1 x.f2 x.f3 = some (l ++ eY x) := by
 unfold wire_try.f
 exact bind_to (ints4 k hk hx.1 hx.2.1 hx.2.2.1 hx.2.2.2 hl) rfl
theorem moment_f (k : Nat) {l : List Int} {x : S25} (hk : 12 ≤ k) (hx : gS x) (hl : l.length + 16 < 140737488355328) : wire_moment.f k l x.f0 x.f1 = some (l ++ eS x) := by
 unfold wire_moment.f
 refine bind_to (stamp_calls k hk hx.1 hx.2) ?_
 rw [eS_len, if_pos hl]
theorem flag_f {l : List Int} {b : Bool} (hl : l.length < 140737488355328) : wire_flag.f l b = some (l ++ eF b) := by
 unfold wire_flag.f
 cases b
 ·rw [if_neg (by decide), if_pos hl]; rfl
 ·rw [if_pos rfl, if_pos hl]; rfl
theorem btext (k : Nat) {l : List Int} {s : ByteArray} (hk : 10 ≤ k) (hl : l.length + s.size + 10 < 140737488355328) : bits_Text.f k l (bytesOf s) = some (l ++ eT s) := text_calls k hk (by rw [bytesOf_length]; exact hl)
theorem text1 (k : Nat) {l : List Int} {s : ByteArray} (hk : 10 ≤ k) (hl : l.length + (eT s).length + 10 < 140737488355328) : wire_text.f k l [s] = some (l ++ eT s) := by
 have := eT_len s
 unfold wire_text.f wire_text.l wire_text.l
 rw [if_neg (by simp)]
 exact bind_to (btext k hk (by omega)) rfl
theorem text2 (k : Nat) {l : List Int} {s t : ByteArray} (hk : 10 ≤ k) (hl : l.length + (eT s).length + (eT t).length + 10 < 140737488355328) : wire_text.f k l [s, t] = some (l ++ (eT s ++ eT t)) := by
 have h1 := eT_len s
 have h2 := eT_len t
 unfold wire_text.f wire_text.l wire_text.l wire_text.l
 rw [if_neg (by simp)]
 refine bind_to (btext k hk (by omega)) (bind_to (btext k hk (by rw [List.length_append]; omega)) ?_)
 rw [List.append_assoc]
theorem rd65 {l : List S65} {i : Nat} (h : i < l.length) : rd_T65 l (i : Int) = l[i] := by unfold rd_T65; rw [Int.toNat_natCast, List.getD_eq_getElem?_getD, List.getElem?_eq_getElem h]; rfl
theorem rd67 {l : List S67} {i : Nat} (h : i < l.length) : rd_T67 l (i : Int) = l[i] := by unfold rd_T67; rw [Int.toNat_natCast, List.getD_eq_getElem?_getD, List.getElem?_eq_getElem h]; rfl
theorem writes_loop (xs : List S67) (hs : xs.length < 140737488355328) (d : Nat) : ∀ (k i : Nat) (acc : List Int), i + d = xs.length → d + 16 < k → acc.length + ((xs.drop i).flatMap eWrite).length + 20 < 140737488355328 → wire_Cmd.l1 k acc xs (xs.length : Int) (i : Int) = some (acc ++ (xs.drop i).flatMap eWrite) := by
 induction d with
 | zero =>
  intro k i acc hi hk ha
  obtain ⟨k, rfl⟩ : ∃ m, k = m + 1 := ⟨k - 1, by omega⟩
  simp only [wire_Cmd.l1]
  rw [if_neg (by omega), List.drop_of_length_le (by omega), List.flatMap_nil, List.append_nil]
 | succ d ih =>
  intro k i acc hi hk ha
  obtain ⟨k, rfl⟩ : ∃ m, k = m + 1 := ⟨k - 1, by omega⟩
  have h0 : i < xs.length := by omega
  rw [List.drop_eq_getElem_cons h0, List.flatMap_cons, List.length_append] at ha
  have hw : (eWrite xs[i]).length = (eT xs[i].f0).length + 1 + (eT xs[i].f2).length := by unfold eWrite; rw [List.length_append, List.length_append, eF_len]
  simp only [wire_Cmd.l1]
  rw [if_pos (by omega), if_pos (by omega), if_pos (by omega), rd67 h0]
  refine bind_to (text1 k (by omega) (by omega)) (bind_to (flag_f (by rw [List.length_append]; omega)) (bind_to (text1 k (by omega) (by simp only [List.length_append, eF_len]; omega)) ?_))
  rw [w64_id (by omega) (by omega), List.drop_eq_getElem_cons h0, List.flatMap_cons]
  refine (ih k (i + 1) _ (by omega) (by omega) (by simp only [List.length_append, eF_len]; omega)).trans (congrArg some ?_)
  unfold eWrite
  simp only [List.append_assoc]
theorem spans_loop (c : CmdV) (xs : List S65) (hs : xs.length < 140737488355328) (hws : c.writes.length < 140737488355328) (d : Nat) : ∀ (k i : Nat) (acc : List Int), i + d = xs.length → d + c.writes.length + 20 < k → acc.length + ((xs.drop i).flatMap eSpan).length + (eL eWrite c.writes).length + 40 < 140737488355328 →
  wire_Cmd.l0 k acc xs (xs.length : Int) (i : Int) c.kind c.epoch c.node c.home c.by_.f0 c.by_.f1 c.by_.f2 c.by_.f3 c.at_.f0 c.at_.f1 c.wall c.yes xs c.writes = some (acc ++ (xs.drop i).flatMap eSpan ++ eL eWrite c.writes) := by
 induction d with
 | zero =>
  intro k i acc hi hk ha
  obtain ⟨k, rfl⟩ : ∃ m, k = m + 1 := ⟨k - 1, by omega⟩
  have hn := eN_len (c.writes.length : Int)
  have hel : (eL eWrite c.writes).length = (eN (c.writes.length : Int)).length + (c.writes.flatMap eWrite).length := by unfold eL; rw [List.length_append]
  rw [List.drop_of_length_le (by omega), List.flatMap_nil, List.length_nil] at ha
  simp only [wire_Cmd.l0]
  rw [if_neg (by omega), List.drop_of_length_le (by omega), List.flatMap_nil, List.append_nil]
  refine bind_to (ints1 k (by omega) ⟨by omega, by omega⟩ (by omega)) ?_
  have := writes_loop c.writes hws c.writes.length k 0 (acc ++ eN (c.writes.length : Int)) (by omega) (by omega) (by rw [List.drop_zero, List.length_append]; omega)
  rw [List.drop_zero] at this
  rw [show ((0 : Nat) : Int) = 0 from rfl] at this
  rw [this]
  unfold eL
  rw [List.append_assoc]
 | succ d ih =>
  intro k i acc hi hk ha
  obtain ⟨k, rfl⟩ : ∃ m, k = m + 1 := ⟨k - 1, by omega⟩
  have h0 : i < xs.length := by omega
  rw [List.drop_eq_getElem_cons h0, List.flatMap_cons, List.length_append] at ha
  have hw : (eSpan xs[i]).length = (eT xs[i].f0).length + (eT xs[i].f1).length := by unfold eSpan; rw [List.length_append]
  simp only [wire_Cmd.l0]
  rw [if_pos (by omega), if_pos (by omega), if_pos (by omega), rd65 h0]
  refine bind_to (text2 k (by omega) (by omega)) ?_
  rw [w64_id (by omega) (by omega), List.drop_eq_getElem_cons h0, List.flatMap_cons]
  refine (ih k (i + 1) _ (by omega) (by omega) (by simp only [List.length_append]; omega)).trans (congrArg some ?_)
  unfold eSpan
  simp only [List.append_assoc]
def cmdF (k : Nat) (c : CmdV) : Option (List Int) := wire_Cmd.f k c.kind c.epoch c.node c.home c.by_.f0 c.by_.f1 c.by_.f2 c.by_.f3 c.at_.f0 c.at_.f1 c.wall c.yes c.spans c.writes
def gCmd0 (c : CmdV) : Prop := In64 c.kind ∧ In64 c.epoch ∧ In64 c.node ∧ In64 c.home ∧ gY c.by_ ∧ gS c.at_ ∧ In64 c.wall
theorem cmd_f (c : CmdV) (k : Nat) (hk : c.spans.length + c.writes.length + 40 ≤ k) (hg : gCmd0 c) (hs : c.spans.length < 140737488355328) (hws : c.writes.length < 140737488355328) (hl : (eCmd c).length + 200 < 140737488355328) : cmdF k c = some (eCmd c) := by
 obtain ⟨h1, h2, h3, h4, h5, h6, h7⟩ := hg
 have e1 := eN_len c.kind
 have e2 := eN_len c.epoch
 have e3 := eN_len c.node
 have e4 := eN_len c.home
 have e5 := eY_len c.by_
 have e6 := eS_len c.at_
 have e7 := eN_len c.wall
 have e8 := eN_len (c.spans.length : Int)
 have es : (eL eSpan c.spans).length = (eN (c.spans.length : Int)).length + (c.spans.flatMap eSpan).length := by unfold eL; rw [List.length_append]
 have el : (eCmd c).length = 1 + (eN c.kind).length + (eN c.epoch).length + (eN c.node).length + (eN c.home).length + (eY c.by_).length + (eS c.at_).length + (eN c.wall).length + 1 + (eL eSpan c.spans).length + (eL eWrite c.writes).length := by
  unfold eCmd
  simp only [List.length_append, eF_len, List.length_cons, List.length_nil]
  try omega
 unfold cmdF wire_Cmd.f
 refine bind_to (ints4 k (by omega) h1 h2 h3 h4 (by simp only [List.length_cons, List.length_nil]; omega)) ?_
 refine bind_to (try_f k (by omega) h5 (by simp only [List.length_append, List.length_cons, List.length_nil]; omega)) ?_
 refine bind_to (moment_f k (by omega) h6 (by simp only [List.length_append, List.length_cons, List.length_nil]; omega)) ?_
 refine bind_to (num1 k (by omega) h7 (by simp only [List.length_append, List.length_cons, List.length_nil]; omega)) ?_
 refine bind_to (flag_f (by simp only [List.length_append, List.length_cons, List.length_nil]; omega)) ?_
 refine bind_to (ints1 k (by omega) ⟨by omega, by omega⟩ (by simp only [List.length_append, eF_len, List.length_cons, List.length_nil]; omega)) ?_
 have := spans_loop c c.spans hs hws c.spans.length k 0 ([1] ++ (eN c.kind ++ eN c.epoch ++ eN c.node ++ eN c.home) ++ eY c.by_ ++ eS c.at_ ++ eN c.wall ++ eF c.yes ++ eN (c.spans.length : Int)) (by omega) (by omega) (by rw [List.drop_zero]; simp only [List.length_append, eF_len, List.length_cons, List.length_nil]; omega)
 rw [List.drop_zero, show ((0 : Nat) : Int) = 0 from rfl] at this
 refine this.trans (congrArg some ?_)
 unfold eCmd eL
 simp only [List.append_assoc]
end Go.Proofs.Ytjfgapaohldbkaa.WireWr


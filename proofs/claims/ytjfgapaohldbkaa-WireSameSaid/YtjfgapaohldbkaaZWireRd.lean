/- The reader of package wire: what its small methods come to. RD: the reader of type T in block g stands ahead of the bytes l, which are read in an elder world's memory. -/
import Derived.Test.YtjfgapaohldbkaaZQAll
import Derived.Test.YtjfgapaohldbkaaZWireSpec
import Derived.Test.YtjfgapaohldbkaaZWireBlk
import Derived.Test.YtjfgapaohldbkaaZQAx19
import Derived.Test.YtjfgapaohldbkaaZQAx10
namespace Go.Proofs.Ytjfgapaohldbkaa.WireRd
open Go.RowKit Go.Proofs.Ytjfgapaohldbkaa.QA Go.Proofs.YtjfgapaohldbkaaW.PrintWords Go.Proofs.YtjfgapaohldbkaaW.PrintLast Go.Proofs.YtjfgapaohldbkaaW.PrintMore Go.Proofs.Ytjfgapaohldbkaa.Facts Go.Proofs.Ytjfgapaohldbkaa.Codec Go.Proofs.Ytjfgapaohldbkaa.WireC Go.Proofs.Ytjfgapaohldbkaa.WireSpec Go.Proofs.Ytjfgapaohldbkaa.WireBlk Go.Proofs.Ytjfgapaohldbkaa.QASpec Go.Proofs.Ytjfgapaohldbkaa.QAPutSpec
attribute [local go_sem] max2_int min2_int max_two min_two max_three min_three max_four min_four
set_option linter.unusedVariables false
set_option linter.unusedSimpArgs false
def RD (T : Nat) (W0 w : World) (g : Nat) (l : List Int) (s : Bool) : Prop :=
 ∃ A c, w.heap[g]? = some (.cells #[.slice A l.length c, .bool s] T (0, 0)) ∧ l.length ≤ c ∧ Kd.C (Kd.int .u8) W0 A l.length l ∧ W0.heap.size ≤ g ∧ Below W0.heap.size W0 w ∧ Bytes l ∧ l.length < 140737488355328
section
variable {T : Nat} {W0 w w1 : World} {g : Nat} {l : List Int} {s : Bool}
theorem RD.lt (h : RD T W0 w g l s) : g < w.heap.size := by
 obtain ⟨A, c, h1, _⟩ := h
 exact blk_lt h1
theorem RD.belowW (h : RD T W0 w g l s) : Below W0.heap.size W0 w := by
 obtain ⟨A, c, h1, h2, h3, h4, h5, _⟩ := h
 exact h5
theorem RD.bytes (h : RD T W0 w g l s) : Bytes l := by
 obtain ⟨A, c, h1, h2, h3, h4, h5, h6, h7⟩ := h
 exact h6
theorem RD.short (h : RD T W0 w g l s) : l.length < 140737488355328 := by
 obtain ⟨A, c, h1, h2, h3, h4, h5, h6, h7⟩ := h
 exact h7
theorem RD.flag_cell (h : RD T W0 w g l s) : w.cell? ⟨g, 1, none⟩ = some (.bool s) := by
 obtain ⟨A, c, h1, _⟩ := h
 exact (blk_cell h1 1).trans rfl
theorem RD.flag_free (h : RD T W0 w g l s) : w.frozen? ⟨g, 1, none⟩ = false := by
 obtain ⟨A, c, h1, _⟩ := h
 exact blk_frozen h1 1
theorem RD.head (h : RD T W0 w g l s) : ∃ A c, w.cell? ⟨g, 0, none⟩ = some (.slice A l.length c) ∧ l.length ≤ c ∧ Kd.C (Kd.int .u8) w A l.length l := by
 obtain ⟨A, c, h1, h2, h3, h4, h5, _⟩ := h
 exact ⟨A, c, (blk_cell h1 0).trans rfl, h2, Kd.C_below h3 h5⟩
theorem RD.drew (h : RD T W0 w g l s) : RD T W0 w.drew g l s := by
 obtain ⟨A, c, h1, h2, h3, h4, h5, h6⟩ := h
 exact ⟨A, c, h1, h2, h3, h4, below_drew h5, h6⟩
theorem RD.below (h : RD T W0 w g l s) (hb : Below w.heap.size w w1) : RD T W0 w1 g l s := by
 obtain ⟨A, c, h1, h2, h3, h4, h5, h6⟩ := h
 exact ⟨A, c, blk_below h1 hb, h2, h3, h4, below_then h5 h5.size hb, h6⟩
theorem RD.drawn (h : RD T W0 w g l s) (hb : Drawn0 w w1) : RD T W0 w1 g l s := h.below hb.below
theorem RD.far (h : RD T W0 w g l s) {gb : Nat} (hne : g ≠ gb) (hle : W0.heap.size ≤ gb) (j : Nat) (v : Value) : RD T W0 (w.setCell ⟨gb, j, none⟩ v) g l s := by
 obtain ⟨A, c, h1, h2, h3, h4, h5, h6⟩ := h
 exact ⟨A, c, (Below.heap_setCell w ⟨gb, j, none⟩ v g hne).trans h1, h2, h3, h4, h5.setCell hle _, h6⟩
theorem RD.grown (h : RD T W0 w g l s) {v : Value} (hg : w.grownBy w1 v.ownBlock) (hb : Below W0.heap.size W0 w1) (hne : ∀ k, v.ownBlock = some k → k ≠ g) : RD T W0 w1 g l s := by
 obtain ⟨A, c, h1, h2, h3, h4, h5, h6⟩ := h
 exact ⟨A, c, blk_grown h1 hg (fun e => hne g e.symm rfl), h2, h3, h4, hb, h6⟩
theorem RD.setFlag (h : RD T W0 w g l s) (s1 : Bool) : RD T W0 (w.setCell ⟨g, 1, none⟩ (.bool s1)) g l s1 := by
 obtain ⟨A, c, h1, h2, h3, h4, h5, h6⟩ := h
 exact ⟨A, c, heap_setCell_same w g 1 _ T _ h1, h2, h3, h4, h5.setCell h4 _, h6⟩
end
theorem keep_set {w : World} {g j : Nat} {v : Value} : KeepBut w (w.setCell ⟨g, j, none⟩ v) g none := (KeepBut.refl w g none).set_ j v
theorem keep_trans {w w1 w2 : World} {g : Nat} (h : KeepBut w w1 g none) (k : KeepBut w1 w2 g none) : KeepBut w w2 g none := h.trans k (.inl rfl)
theorem keep_drawn {w w1 : World} {g : Nat} (hb : Drawn0 w w1) : KeepBut w w1 g none := KeepBut.of_below hb.below g none
def Rdp (T : Nat) (W0 w : World) (g : Nat) (v : Value) (l : List Int) (s : Bool) (e : Ending) (w' : World) : Prop := e = .returned v ∧ RD T W0 w' g l s ∧ KeepBut w w' g none
def Rdq {α : Type} (T : Nat) (W0 w : World) (g : Nat) (p : Pr α) (enc : α → Value) (good : α → Prop) (l : List Int) (s : Bool) (e : Ending) (w' : World) : Prop :=
 ∃ (v : α) (l' : List Int) (s' : Bool), e = .returned (enc v) ∧ RD T W0 w' g l' s' ∧ KeepBut w w' g none ∧ Step p l s v l' s' ∧ good v
theorem flag_bad {v : Int} {l l1 l2 : List Int} {s s1 : Bool} (hv : 1 < v) (h : Step pB l s v l1 s1 ∧ 0 ≤ v ∧ v < 256) : Step pF l s false l2 true := by
 refine ⟨fun _ => rfl, fun e => .inl ⟨rfl, ?_⟩⟩
 unfold pF Pr.bind
 rcases h.1.2 e with ⟨_, e2⟩ | ⟨_, e2⟩
 ·rw [e2]
 ·rw [e2]
  simp only
  rw [if_pos hv]
  rfl
theorem flag_good {v : Int} {l l1 : List Int} {s s1 : Bool} (hv : v ≤ 1) (h : Step pB l s v l1 s1) : Step pF l s (decide (v = 1)) l1 s1 := by
 refine h.bind ?_
 rw [if_neg (by omega)]
 exact Step.pure _ _ _
def skipTo (l : List Int) (n : Int) : List Int := l.drop (min n (l.length : Int)).toNat
set_option maxHeartbeats 4000000 in
set_option maxRecDepth 100000 in
theorem fails_calls {W0 w : World} {g : Nat} {l : List Int} {s : Bool} {n : Int} (h : RD 101 W0 w g l s) :
  Calls Try.prog 90 #[.pointer (some ⟨g, 0, none⟩), .int .i64 n] w (Rdp 101 W0 w g (.tuple #[]) l (s || n != 0)) := by
 have H1 := h.flag_cell
 have F1 : w.frozen? ⟨g, 1, none⟩ = false := by
  obtain ⟨A, c, h1, _⟩ := h
  exact blk_frozen h1 1
 have HR := Aside0.mk h
 clear h
 cases s with
 | true =>
  go_enter Try.func90, Try.ntmps90
  go_wp2
  first | go_end0 | ((try simp only [Exit.inBlock, Exit.then]); refine bodyPost_ret (results_none rfl _ _ _) rfl ?_)
  exact ⟨rfl, HR.out.setFlag _, keep_set⟩
 | false =>
  go_enter Try.func90, Try.ntmps90
  go_wp2
  first | go_end0 | ((try simp only [Exit.inBlock, Exit.then]); refine bodyPost_ret (results_none rfl _ _ _) rfl ?_)
  exact ⟨rfl, HR.out.setFlag _, keep_set⟩
set_option maxHeartbeats 4000000 in
set_option maxRecDepth 100000 in
theorem skip_calls {W0 w : World} {g : Nat} {l : List Int} {s : Bool} {n : Int} (h : RD 101 W0 w g l s) (hn : 0 ≤ n) :
  Calls Try.prog 91 #[.pointer (some ⟨g, 0, none⟩), .int .i64 n] w (Rdp 101 W0 w g (.tuple #[]) (skipTo l n) s) := by
 obtain ⟨A, c, hg, hlc, hC, hW, hB, hby, hsh⟩ := h
 have H0 : w.cell? ⟨g, 0, none⟩ = some (.slice A l.length c) := (blk_cell hg 0).trans rfl
 have F0 := blk_frozen hg 0
 obtain ⟨m, hm⟩ : ∃ m : Nat, (m : Int) = min n (l.length : Int) := ⟨(min n (l.length : Int)).toNat, by omega⟩
 have hml : m ≤ l.length := by omega
 have hmin : (if (l.length : Int) < n then (l.length : Int) else n) = (m : Int) := by split <;> omega
 have hsk : skipTo l n = l.drop m := by unfold skipTo; rw [← hm, Int.toNat_natCast]
 obtain ⟨i0, hi, _, hsz, _⟩ := info_parts info5
 have hcut := cut_from (P := Try.prog) 46 5 .i64 Try.underlying46 hi 1 hsz A l.length c (m : Int) (by omega) (by omega)
 simp only [Int.toNat_natCast] at hcut
 obtain ⟨A', hA'⟩ : ∃ A', A' = (if c = m then A else A.map (·.add (m * 1))) := ⟨_, rfl⟩
 obtain ⟨t, ht⟩ : ∃ t, t = l.drop m := ⟨_, rfl⟩
 have hl1 : l.length - m = t.length := by rw [ht, List.length_drop]
 have hrC : Kd.C (Kd.int .u8) W0 A' t.length t := by rw [hA', ht]; exact Kd.C_drop (m := m) (c := c) hC hml hlc
 rw [← hA', hl1] at hcut
 rw [hsk, ← ht]
 have HX := Aside0.mk (show t.length ≤ c - m ∧ Bytes t ∧ t.length < 140737488355328 from ⟨by omega, fun x hx => hby x (by rw [ht] at hx; exact List.mem_of_mem_drop hx), by omega⟩)
 have HG := Aside0.mk hg
 have HW := Aside0.mk hW
 have HB := Aside0.mk hB
 have HC := Aside0.mk hrC
 clear hg hW hB hC hlc hby hsh hrC hA' ht hl1 hsk hm hi hsz
 go_enter Try.func91, Try.ntmps91
 go_wp2
 refine start_ (n := 16) (S := fun w' => w'.cell? ⟨g, 0, none⟩ = some (.slice A l.length c)) (ds := [15]) #[false, false, false, false, false, false, false, false, false, false, false, false, false, false, false, false] (by kernel_rfl) rfl rfl (H0) (fun hHeld => ?_)
 refine pure_ (i := 0) (N := some 4) (v := ?_) (a' := ?_) #[true, false, false, false, false, false, false, false, false, false, false, false, false, false, false, false] rfl rfl (by kernel_rfl) (fun _ _ _ h => h) (Or.inl ⟨by rfl, ?_⟩) ?_ ?_
 rotate_left
 ·intro w'
  go_simp
  with_reducible rfl
 rotate_left
 ·simp only [Act.put, s1, s2, s3, i64_w, i32_w]
  rfl
 refine pure_ (i := 1) (N := some 5) (v := ?_) (a' := ?_) #[true, true, false, false, false, false, false, false, false, false, false, false, false, false, false, false] rfl rfl (by kernel_rfl) (fun _ _ _ h => h) (Or.inl ⟨by rfl, ?_⟩) ?_ ?_
 rotate_left
 ·intro w'
  go_simp
  with_reducible rfl
 rotate_left
 ·simp only [Act.put, s1, s2, s3, i64_w, i32_w]
  rfl
 refine pure_ (i := 2) (N := some 6) (v := ?_) (a' := ?_) #[true, true, true, false, false, false, false, false, false, false, false, false, false, false, false, false] rfl rfl (by kernel_rfl) (fun _ _ _ h => h) (Or.inl ⟨by rfl, ?_⟩) ?_ ?_
 rotate_left
 ·intro w'
  go_simp
  with_reducible rfl
 rotate_left
 ·simp only [Act.put, s1, s2, s3, i64_w, i32_w]
  rfl
 refine pure_ (i := 3) (N := some 7) (v := ?_) (a' := ?_) #[true, true, true, true, false, false, false, false, false, false, false, false, false, false, false, false] rfl rfl (by kernel_rfl) (fun _ _ _ h => h) (Or.inl ⟨by rfl, ?_⟩) ?_ ?_
 rotate_left
 ·intro w'
  go_simp
  with_reducible rfl
 rotate_left
 ·simp only [Act.put, s1, s2, s3, i64_w, i32_w]
  rfl
 refine pure_ (i := 5) (N := some 9) (v := ?_) (a' := ?_) #[true, true, true, true, false, true, false, false, false, false, false, false, false, false, false, false] rfl rfl (by kernel_rfl) (fun _ _ _ h => h) (Or.inl ⟨by rfl, ?_⟩) ?_ ?_
 rotate_left
 ·intro w'
  go_simp
  with_reducible rfl
 rotate_left
 ·simp only [Act.put, s1, s2, s3, i64_w, i32_w]
  rfl
 refine pure_ (i := 6) (N := some 10) (v := ?_) (a' := ?_) #[true, true, true, true, false, true, true, false, false, false, false, false, false, false, false, false] rfl rfl (by kernel_rfl) (fun _ _ _ h => h) (Or.inl ⟨by rfl, ?_⟩) ?_ ?_
 rotate_left
 ·intro w'
  go_simp
  with_reducible rfl
 rotate_left
 ·simp only [Act.put, s1, s2, s3, i64_w, i32_w]
  rfl
 refine pure_ (i := 7) (N := some 11) (v := ?_) (a' := ?_) #[true, true, true, true, false, true, true, true, false, false, false, false, false, false, false, false] rfl rfl (by kernel_rfl) (fun _ _ _ h => h) (Or.inl ⟨by rfl, ?_⟩) ?_ ?_
 rotate_left
 ·intro w'
  go_simp
  with_reducible rfl
 rotate_left
 ·simp only [Act.put, s1, s2, s3, i64_w, i32_w]
  rfl
 refine pure_ (i := 8) (N := some 12) (v := ?_) (a' := ?_) #[true, true, true, true, false, true, true, true, true, false, false, false, false, false, false, false] rfl rfl (by kernel_rfl) (fun _ _ _ h => h) (Or.inl ⟨by rfl, ?_⟩) ?_ ?_
 rotate_left
 ·intro w'
  go_simp
  with_reducible rfl
 rotate_left
 ·simp only [Act.put, s1, s2, s3, i64_w, i32_w]
  rfl
 refine take_ (i := 4) (N := some 8) (v := ?_) (a' := ?_) #[true, true, true, true, true, true, true, true, true, false, false, false, false, false, false, false] rfl rfl (by kernel_rfl) (fun _ _ _ h => h) (Or.inl ⟨by rfl, ?_⟩) hHeld ?_ ?_
 rotate_left
 ·intro w' s0
  go_simp
  with_reducible rfl
 rotate_left
 ·simp only [Act.put, s1, s2, s3, i64_w, i32_w]
  rfl
 refine take_ (i := 9) (N := some 13) (v := ?_) (a' := ?_) #[true, true, true, true, true, true, true, true, true, true, false, false, false, false, false, false] rfl rfl (by kernel_rfl) (fun _ _ _ h => h) (Or.inl ⟨by rfl, ?_⟩) hHeld ?_ ?_
 rotate_left
 ·intro w' s0
  go_simp
  with_reducible rfl
 rotate_left
 ·simp only [Act.put, s1, s2, s3, i64_w, i32_w]
  rfl
 refine pure_ (i := 10) (N := some 14) (v := ?_) (a' := ?_) #[true, true, true, true, true, true, true, true, true, true, true, false, false, false, false, false] rfl rfl (by kernel_rfl) (fun _ _ _ h => h) (Or.inl ⟨by rfl, ?_⟩) ?_ ?_
 rotate_left
 ·intro w'
  go_simp
  with_reducible rfl
 rotate_left
 ·simp only [Act.put, s1, s2, s3, i64_w, i32_w]
  rfl
 refine pure_ (i := 11) (N := some 15) (v := ?_) (a' := ?_) #[true, true, true, true, true, true, true, true, true, true, true, true, false, false, false, false] rfl rfl (by kernel_rfl) (fun _ _ _ h => h) (Or.inl ⟨by rfl, ?_⟩) ?_ ?_
 rotate_left
 ·intro w'
  go_simp
  with_reducible rfl
 rotate_left
 ·simp only [Act.put, s1, s2, s3, i64_w, i32_w]
  rfl
 refine pure_ (i := 12) (N := some 16) (v := ?_) (a' := ?_) #[true, true, true, true, true, true, true, true, true, true, true, true, true, false, false, false] rfl rfl (by kernel_rfl) (fun _ _ _ h => h) (Or.inl ⟨by rfl, ?_⟩) ?_ ?_
 rotate_left
 ·intro w'
  go_simp
  with_reducible rfl
 rotate_left
 ·simp only [Act.put, s1, s2, s3, i64_w, i32_w]
  rfl
 refine pure_ (i := 13) (N := some 17) (v := ?_) (a' := ?_) #[true, true, true, true, true, true, true, true, true, true, true, true, true, true, false, false] rfl rfl (by kernel_rfl) (fun _ _ _ h => h) (Or.inl ⟨by rfl, ?_⟩) ?_ ?_
 rotate_left
 ·intro w'
  go_simp
  with_reducible rfl
 rotate_left
 ·simp only [Act.put, s1, s2, s3, i64_w, i32_w]
  rfl
 refine pure_ (i := 14) (N := some 18) (v := ?_) (a' := ?_) #[true, true, true, true, true, true, true, true, true, true, true, true, true, true, true, false] rfl rfl (by kernel_rfl) (fun _ _ _ h => h) (Or.inl ⟨by rfl, ?_⟩) ?_ ?_
 rotate_left
 ·intro w'
  go_simp
  with_reducible rfl
 rotate_left
 ·simp only [Act.put, s1, s2, s3, i64_w, i32_w]
  rfl
 refine last_ (i := 15) (N := none) #[true, true, true, true, true, true, true, true, true, true, true, true, true, true, true, true] rfl rfl (by kernel_rfl) (by decide) (fun K hK => ?_)
 refine skip_ (w1 := ?_) (by rfl) rfl ?_ ?_
 rotate_left
 ·go_simp
  rfl
 refine hK.out _ _ ?_
 clear hK K
 refine done_ (by kernel_rfl) ?_
 go_wp2
 first | go_end0 | ((try simp only [Exit.inBlock, Exit.then]); refine bodyPost_ret (results_none rfl _ _ _) rfl ?_)
 exact ⟨rfl, ⟨A', _, heap_setCell_same w.drew g 0 _ 101 _ HG.out, HX.out.1, HC.out, HW.out, (below_drew HB.out).setCell HW.out _, HX.out.2⟩, keep_set⟩
theorem step_byte (l : List Int) (hb : Bytes l) (s : Bool) : ∃ v e, getS l 0 1 = (v, e) ∧ Step pB l s v (skipTo l 1) (s || e != 0) ∧ 0 ≤ v ∧ v < 256 := by
 cases l with
 | nil => exact ⟨0, 2, rfl, ⟨fun h => by rw [h]; rfl, fun h => .inl ⟨by rw [h]; rfl, rfl⟩⟩, by omega, by omega⟩
 | cons c t =>
  have hc := hb c (by simp)
  refine ⟨c, 0, ?_, ⟨fun h => by rw [h]; rfl, fun h => .inr ⟨by rw [h]; rfl, ?_⟩⟩, hc.1, hc.2⟩
  ·unfold getS
   rw [if_neg (by omega), if_neg (by simp only [List.length_cons]; omega)]
   simp [gv]
  ·unfold pB skipTo
   have e : min (1 : Int) (((c :: t).length : Nat) : Int) = 1 := by simp only [List.length_cons]; omega
   rw [e]
   rfl
theorem skip_some {l : List Int} {n : Int} (h0 : 0 ≤ n) (hn : n ≤ l.length) : skipTo l n = l.drop n.toNat := by
 unfold skipTo
 rw [show min n (l.length : Int) = n by omega]
theorem step_num (l : List Int) (hb : Bytes l) (s : Bool) : ∃ u n e z, tv 0 0 l = (u, n, e) ∧ z = zag u ∧ U64 u ∧ 0 ≤ n ∧ In64 z ∧ Step pN l s z (skipTo l n) (s || e != 0) := by
 have hr := tv_range l hb 0 0 (by omega) (by omega) (by omega)
 simp only at hr
 obtain ⟨u, n, e, h⟩ : ∃ u n e, tv 0 0 l = (u, n, e) := ⟨_, _, _, rfl⟩
 rw [h] at hr
 obtain ⟨a1, a2, a3, a4, a5, a6⟩ := hr
 refine ⟨u, n, e, zag u, h, rfl, ⟨a1, a2⟩, a3, zag_in64 ⟨a1, a2⟩, fun hs => by rw [hs]; rfl, fun hs => ?_⟩
 by_cases he : e = 0
 ·refine .inr ⟨by rw [hs, he]; rfl, ?_⟩
  unfold pN
  rw [h, if_pos he, skip_some a3 (by have := (a4 he).1; simp only at this; omega)]
 ·refine .inl ⟨by rw [hs, Bool.false_or]; exact bne_iff_ne.2 he, ?_⟩
  unfold pN
  rw [h, if_neg he]
theorem step_text (l : List Int) (hb : Bytes l) (s : Bool) : ∃ t n e, tt l = (t, n, e) ∧ 0 ≤ n ∧ Bytes t ∧ t.length ≤ 1048576 ∧ Step pT l s (strOfNums t) (skipTo l n) (s || e != 0) := by
 have hr := tv_range l hb 0 0 (by omega) (by omega) (by omega)
 simp only at hr
 obtain ⟨u, m, f, h⟩ : ∃ u n e, tv 0 0 l = (u, n, e) := ⟨_, _, _, rfl⟩
 rw [h] at hr
 simp only at hr
 obtain ⟨a1, a2, a3, a4, a5, a6⟩ := hr
 obtain ⟨t, n, e, ht⟩ : ∃ t n e, tt l = (t, n, e) := ⟨_, _, _, rfl⟩
 have ht2 := ht
 unfold tt at ht2
 rw [h] at ht2
 simp only at ht2
 have hall : (e = 0 → 0 ≤ n ∧ n ≤ l.length) ∧ 0 ≤ n ∧ Bytes t ∧ t.length ≤ 1048576 := by
  by_cases c1 : f = 0
  ·have a4 := a4 c1
   rw [if_neg (show ¬ f ≠ 0 by simpa using c1)] at ht2
   by_cases c2 : u > 1048576
   ·rw [if_pos c2] at ht2
    simp only [Prod.mk.injEq] at ht2
    obtain ⟨rfl, rfl, rfl⟩ := ht2
    exact ⟨fun h => absurd h (by decide), Int.le_refl 0, (fun c hc => by cases hc), Nat.zero_le _⟩
   ·rw [if_neg c2] at ht2
    by_cases c3 : u > (l.length : Int) - m
    ·rw [if_pos c3] at ht2
     simp only [Prod.mk.injEq] at ht2
     obtain ⟨rfl, rfl, rfl⟩ := ht2
     exact ⟨fun h => absurd h (by decide), Int.le_refl 0, (fun c hc => by cases hc), Nat.zero_le _⟩
    ·rw [if_neg c3] at ht2
     simp only [Prod.mk.injEq] at ht2
     obtain ⟨rfl, rfl, rfl⟩ := ht2
     exact ⟨fun _ => ⟨by omega, by omega⟩, by omega, fun c hc => hb c (List.mem_of_mem_take (List.mem_of_mem_drop hc)), by rw [List.length_drop, List.length_take]; omega⟩
  ·rw [if_pos (show f ≠ 0 from c1)] at ht2
   simp only [Prod.mk.injEq] at ht2
   obtain ⟨rfl, rfl, rfl⟩ := ht2
   exact ⟨fun h => absurd h c1, Int.le_refl 0, (fun c hc => by cases hc), Nat.zero_le _⟩
 refine ⟨t, n, e, ht, hall.2.1, hall.2.2.1, hall.2.2.2, fun hs => by rw [hs]; rfl, fun hs => ?_⟩
 by_cases he : e = 0
 ·refine .inr ⟨by rw [hs, he]; rfl, ?_⟩
  unfold pT
  rw [ht, if_pos he, skip_some hall.2.1 (hall.1 he).2]
 ·refine .inl ⟨by rw [hs, Bool.false_or]; exact bne_iff_ne.2 he, ?_⟩
  unfold pT
  rw [ht, if_neg he]
theorem step_stamp (l : List Int) (hb : Bytes l) (s : Bool) : ∃ a b e, takeS (l.take (min 16 l.length)) = (a, b, e) ∧ In64 a ∧ In64 b ∧ Step pS l s ⟨a, b⟩ (skipTo l 16) (s || e != 0) := by
 have hz : In64 0 := ⟨by omega, by omega⟩
 by_cases c : l.length < 16
 ·refine ⟨0, 0, 2, ?_, hz, hz, fun hs => by rw [hs]; rfl, fun hs => .inl ⟨by rw [hs]; rfl, ?_⟩⟩
  ·unfold takeS
   rw [if_pos (by rw [List.length_take]; omega)]
  ·unfold pS
   rw [if_pos c]
 ·have e16 : min 16 l.length = 16 := by omega
  have g1 := gv_u64 (l := l.take 8) (fun c h => hb c (List.mem_of_mem_take h)) (by rw [List.length_take]; omega)
  have g2 := gv_u64 (l := (l.take 16).drop 8) (fun c h => hb c (List.mem_of_mem_take (List.mem_of_mem_drop h))) (by rw [List.length_drop, List.length_take]; omega)
  refine ⟨gv (l.take 8) - 9223372036854775808, gv ((l.take 16).drop 8) - 9223372036854775808, 0, ?_, ⟨by have := g1.1; omega, by have := g1.2; omega⟩, ⟨by have := g2.1; omega, by have := g2.2; omega⟩, fun hs => by rw [hs]; rfl, fun hs => .inr ⟨by rw [hs]; rfl, ?_⟩⟩
  ·rw [e16]
   unfold takeS
   rw [if_neg (by rw [List.length_take]; omega), if_neg (by rw [List.length_take]; omega), List.take_take]
   rfl
  ·unfold pS
   rw [if_neg c, skip_some (by omega) (by omega)]
   rfl
set_option maxHeartbeats 4000000 in
set_option maxRecDepth 100000 in
theorem byte_calls {W0 w : World} {g : Nat} {l : List Int} {s : Bool} (h : RD 101 W0 w g l s) :
  Calls Try.prog 55 #[.pointer (some ⟨g, 0, none⟩)] w (Rdq 101 W0 w g pB (fun v => .int .i64 v) (fun v => 0 ≤ v ∧ v < 256) l s) := by
 obtain ⟨A, c, hc0, hlc, hC⟩ := h.head
 obtain ⟨v, e_, hge, hst, hv0, hv1⟩ := step_byte l h.bytes s
 have HG := Aside0.mk ((get_calls 40 (by omega) h.bytes h.short).trans (congrArg some hge))
 clear hge
 have HR := Aside0.mk h
 have HC := Aside0.mk hC
 have HL := Aside0.mk hlc
 have HS := Aside0.mk hst
 clear h hC hlc hst
 have hv2 := hv0
 have hv3 : v ≤ 9223372036854775807 := by omega
 go_enter Try.func55, Try.ntmps55
 go_wp2_with (first | ((with_reducible refine gate_callee (f := 89) rfl ?_); refine qL (some 10) Try.func89 #[.slice A l.length c, .int .i64 0, .int .i64 1] ?_; (with_reducible refine (bits_Get.calls 40 A c l 0 1 v e_ _ HC.out HL.out HG.out).mono ?_); rintro e w1 ⟨rfl, hd⟩; refine ⟨_, rfl, ?_⟩; have HR1 := Aside0.mk (HR.out.drawn hd); have HK1 := Aside0.mk (keep_drawn (g := g) hd); clear hd) | ((with_reducible refine gate_callee (f := 90) rfl ?_); refine qL (some 15) Try.func90 #[.pointer (some ⟨g, 0, none⟩), .int .i64 e_] ?_; (with_reducible refine (fails_calls (n := e_) HR1.out).mono ?_); rintro e w2 ⟨rfl, h2, k2⟩; refine ⟨_, rfl, ?_⟩; have HR2 := Aside0.mk h2; have HK2 := Aside0.mk k2; clear h2 k2) | ((with_reducible refine gate_callee (f := 91) rfl ?_); refine qL (some 17) Try.func91 #[.pointer (some ⟨g, 0, none⟩), .int .i64 1] ?_; (with_reducible refine (skip_calls HR2.out (by omega)).mono ?_); rintro e w3 ⟨rfl, h3, k3⟩; refine ⟨_, rfl, ?_⟩; have HR3 := Aside0.mk h3; have HK3 := Aside0.mk k3; clear h3 k3))
 go_ret
 exact ⟨v, _, _, by first | rfl | (simp; done), HR3.out, keep_trans HK1.out (keep_trans HK2.out HK3.out), HS.out, hv0, hv1⟩
set_option maxHeartbeats 4000000 in
set_option maxRecDepth 100000 in
theorem num_calls {W0 w : World} {g : Nat} {l : List Int} {s : Bool} (h : RD 101 W0 w g l s) :
  Calls Try.prog 59 #[.pointer (some ⟨g, 0, none⟩)] w (Rdq 101 W0 w g pN (fun v => .int .i64 v) (In64) l s) := by
 obtain ⟨A, c, hc0, hlc, hC⟩ := h.head
 obtain ⟨u, n, e_, z, htv, hz, hu, hn, hin, hst⟩ := step_num l h.bytes s
 have HG := Aside0.mk ((takeVar_calls 40 (by omega) h.bytes h.short).trans (congrArg some htv))
 have HZ := Aside0.mk (show bits_Zag.f u = some z from by rw [hz]; exact zag_calls hu)
 have HN := Aside0.mk hn
 have HI := Aside0.mk hin
 clear htv hz hu hn hin
 have HR := Aside0.mk h
 have HC := Aside0.mk hC
 have HL := Aside0.mk hlc
 have HS := Aside0.mk hst
 clear h hC hlc hst
 go_enter Try.func59, Try.ntmps59
 go_wp2_with (first | ((with_reducible refine gate_callee (f := 93) rfl ?_); refine qL (some 11) Try.func93 #[.slice A l.length c] ?_; (with_reducible refine (bits_TakeVar.calls 40 A c l u n e_ _ HC.out HL.out HG.out).mono ?_); rintro e w1 ⟨rfl, hd⟩; refine ⟨_, rfl, ?_⟩; have HR1 := Aside0.mk (HR.out.drawn hd); have HK1 := Aside0.mk (keep_drawn (g := g) hd); clear hd) | ((with_reducible refine gate_callee (f := 90) rfl ?_); refine qL (some 17) Try.func90 #[.pointer (some ⟨g, 0, none⟩), .int .i64 e_] ?_; (with_reducible refine (fails_calls (n := e_) HR1.out).mono ?_); rintro e w2 ⟨rfl, h2, k2⟩; refine ⟨_, rfl, ?_⟩; have HR2 := Aside0.mk h2; have HK2 := Aside0.mk k2; clear h2 k2) | ((with_reducible refine gate_callee (f := 91) rfl ?_); refine qL (some 20) Try.func91 #[.pointer (some ⟨g, 0, none⟩), .int .i64 n] ?_; (with_reducible refine (skip_calls HR2.out HN.out).mono ?_); rintro e w3 ⟨rfl, h3, k3⟩; refine ⟨_, rfl, ?_⟩; have HR3 := Aside0.mk h3; have HK3 := Aside0.mk k3; clear h3 k3) | ((with_reducible refine gate_callee (f := 94) rfl ?_); refine qL (some 22) Try.func94 #[.int .u64 u] ?_; (with_reducible refine (bits_Zag.calls u z _ HZ.out).mono ?_); rintro e w4 ⟨rfl, hd⟩; refine ⟨_, rfl, ?_⟩; have HR4 := Aside0.mk (HR3.out.drawn hd); have HK4 := Aside0.mk (keep_drawn (g := g) hd); clear hd))
 go_ret
 exact ⟨z, _, _, rfl, HR4.out, keep_trans (keep_trans HK1.out (keep_trans HK2.out HK3.out)) HK4.out, HS.out, HI.out⟩
set_option maxHeartbeats 4000000 in
set_option maxRecDepth 100000 in
theorem int_calls {W0 w : World} {g : Nat} {l : List Int} {s : Bool} (h : RD 101 W0 w g l s) :
  Calls Try.prog 56 #[.pointer (some ⟨g, 0, none⟩)] w (Rdq 101 W0 w g pN (fun v => .int .i64 v) (In64) l s) := by
 have HR := Aside0.mk h
 clear h
 go_enter Try.func56, Try.ntmps56
 go_wp2_with (first | ((with_reducible refine gate_callee (f := 59) rfl ?_); refine qL (some 4) Try.func59 #[.pointer (some ⟨g, 0, none⟩)] ?_; (with_reducible refine (num_calls HR.out).mono ?_); rintro e w1 ⟨v, l1, s1, rfl, h1, k1, st, gd⟩; refine ⟨_, rfl, ?_⟩; have HX := Aside0.mk (And.intro h1 (And.intro k1 (And.intro st gd))); clear h1 k1 st gd))
 go_ret
 exact ⟨v, l1, s1, rfl, HX.out⟩
set_option maxHeartbeats 4000000 in
set_option maxRecDepth 100000 in
theorem flag_calls {W0 w : World} {g : Nat} {l : List Int} {s : Bool} (h : RD 101 W0 w g l s) :
  Calls Try.prog 60 #[.pointer (some ⟨g, 0, none⟩)] w (Rdq 101 W0 w g pF (fun v => .bool v) (fun _ => True) l s) := by
 have HR := Aside0.mk h
 have HGL := Aside0.mk h.lt
 clear h
 go_enter Try.func60, Try.ntmps60
 go_upto_region 2 with (first | ((with_reducible refine gate_callee (f := 55) rfl ?_); refine qL (some 5) Try.func55 #[.pointer (some ⟨g, 0, none⟩)] ?_; (with_reducible refine (byte_calls HR.out).mono ?_); rintro e w1 ⟨v, l1, s1, rfl, h1, k1, st, gd⟩; refine ⟨_, rfl, ?_⟩; have HX := Aside0.mk (And.intro k1 st); have HR1 := Aside0.mk h1; have hv0 := gd.1; have hv1 := gd.2; have hc1 := h1.flag_cell; have hf1 := h1.flag_free; clear h1 k1 st gd))
 by_cases hv : 1 < v
 ·have hd1 : decide (1 < v) = true := decide_eq_true hv
  have hd2 : (v == 1) = false := beq_eq_false_iff_ne.mpr (by omega)
  have HS := Aside0.mk (flag_bad hv (And.intro HX.out.2 (And.intro hv0 hv1)) (l2 := l1))
  cases s1 with
  | true =>
   go_wp2
   go_ret
   exact ⟨false, l1, true, rfl, HR1.out.setFlag _, keep_trans HX.out.1 keep_set, HS.out, trivial⟩
  | false =>
   go_wp2
   go_ret
   exact ⟨false, l1, true, rfl, HR1.out.setFlag _, keep_trans HX.out.1 keep_set, HS.out, trivial⟩
 ·have hd1 : decide (1 < v) = false := decide_eq_false hv
  have HS := Aside0.mk (flag_good (by omega : v ≤ 1) HX.out.2)
  by_cases hv2 : v = 1
  ·have hd2 : (v == 1) = true := beq_iff_eq.mpr hv2
   have hdd : decide (v = 1) = true := by exact decide_eq_true hv2
   rw [hdd] at HS
   clear hv2 hv hdd
   cases s1 with
   | true =>
    go_wp2
    go_ret
    exact ⟨true, l1, true, rfl, HR1.out.setFlag _, keep_trans HX.out.1 keep_set, HS.out, trivial⟩
   | false =>
    go_wp2
    go_ret
    exact ⟨true, l1, false, rfl, HR1.out.setFlag _, keep_trans HX.out.1 keep_set, HS.out, trivial⟩
  ·have hd2 : (v == 1) = false := beq_eq_false_iff_ne.mpr hv2
   have hdd : decide (v = 1) = false := by exact decide_eq_false hv2
   rw [hdd] at HS
   clear hv2 hv hdd
   cases s1 with
   | true =>
    go_wp2
    go_ret
    exact ⟨false, l1, true, rfl, HR1.out.setFlag _, keep_trans HX.out.1 keep_set, HS.out, trivial⟩
   | false =>
    go_wp2
    go_ret
    exact ⟨false, l1, false, rfl, HR1.out.setFlag _, keep_trans HX.out.1 keep_set, HS.out, trivial⟩
set_option maxHeartbeats 4000000 in
set_option maxRecDepth 100000 in
theorem text_calls {W0 w : World} {g : Nat} {l : List Int} {s : Bool} (h : RD 101 W0 w g l s) :
  Calls Try.prog 63 #[.pointer (some ⟨g, 0, none⟩)] w (Rdq 101 W0 w g pT (fun v => .string v) (fun v => ∃ t, v = strOfNums t ∧ Bytes t ∧ t.length ≤ 1048576) l s) := by
 obtain ⟨A, c, hc0, hlc, hC⟩ := h.head
 obtain ⟨t, n, e_, htt, hn, hbt, htl, hst⟩ := step_text l h.bytes s
 have HG := Aside0.mk ((takeText_calls 40 (by omega) h.bytes h.short).trans (congrArg some htt))
 have HN := Aside0.mk hn
 have HT := Aside0.mk (And.intro hbt htl)
 have HGL := Aside0.mk h.lt
 clear htt hn hbt htl
 have HR := Aside0.mk h
 have HC := Aside0.mk hC
 have HL := Aside0.mk hlc
 have HS := Aside0.mk hst
 clear h hC hlc hst
 go_enter Try.func63, Try.ntmps63
 go_wp2_with (first | ((with_reducible refine gate_callee (f := 95) rfl ?_); refine qL (some 11) Try.func95 #[.slice A l.length c] ?_; (with_reducible refine (bits_TakeText.calls 40 A c l t n e_ _ HC.out HL.out HG.out).mono ?_); rintro e w1 ⟨vt, rfl, ho, hb⟩; refine ⟨_, rfl, ?_⟩; have HR1 := Aside0.mk (HR.out.below hb); have HK1 := Aside0.mk (KeepBut.of_below hb g none); clear hb; have HO1 := Aside0.mk ho; clear ho) | ((with_reducible refine gate_callee (f := 90) rfl ?_); refine qL (some 17) Try.func90 #[.pointer (some ⟨g, 0, none⟩), .int .i64 e_] ?_; (with_reducible refine (fails_calls (n := e_) HR1.out).mono ?_); rintro e w2 ⟨rfl, h2, k2⟩; refine ⟨_, rfl, ?_⟩; have HO2 := Aside0.mk (Kd.R_keep (Kd.R_mono (Kd.R_bound HO1.out) (fun k_ h_ => h_.2.1)) k2 (fun k_ h_ => Nat.ne_of_gt (Nat.lt_of_lt_of_le HGL.out h_))); have HR2 := Aside0.mk h2; have HK2 := Aside0.mk k2; clear h2 k2) | ((with_reducible refine gate_callee (f := 91) rfl ?_); refine qL (some 20) Try.func91 #[.pointer (some ⟨g, 0, none⟩), .int .i64 n] ?_; (with_reducible refine (skip_calls HR2.out HN.out).mono ?_); rintro e w3 ⟨rfl, h3, k3⟩; refine ⟨_, rfl, ?_⟩; have HO3 := Aside0.mk (Kd.R_keep HO2.out k3 (fun k_ h_ => Nat.ne_of_gt (Nat.lt_of_lt_of_le HGL.out h_))); have HR3 := Aside0.mk h3; have HK3 := Aside0.mk k3; have hcv := own_string (P := Try.prog) Try.underlying46 Try.underlying5 Try.underlying9 (Kd.own_of_R HO3.out); clear h3 k3))
 go_ret
 exact ⟨strOfNums t, _, _, rfl, HR3.out, keep_trans HK1.out (keep_trans HK2.out HK3.out), HS.out, t, rfl, HT.out⟩
end Go.Proofs.Ytjfgapaohldbkaa.WireRd


/- What the function values of package wire's reader come to, and its greater methods: attempts, moments, words, cells, outcomes, configurations. Conditions: what each states. -/
import Derived.Test.YtjfgapaohldbkaaZWireLs
namespace Go.Proofs.Ytjfgapaohldbkaa.WireRd
open Go.RowKit Go.Proofs.Ytjfgapaohldbkaa.QA Go.Proofs.YtjfgapaohldbkaaW.PrintWords Go.Proofs.YtjfgapaohldbkaaW.PrintLast Go.Proofs.YtjfgapaohldbkaaW.PrintMore Go.Proofs.Ytjfgapaohldbkaa.Facts Go.Proofs.Ytjfgapaohldbkaa.Codec Go.Proofs.Ytjfgapaohldbkaa.WireC Go.Proofs.Ytjfgapaohldbkaa.WireBlk Go.Proofs.Ytjfgapaohldbkaa.WireSpec Go.Proofs.Ytjfgapaohldbkaa.QAPutSpec
attribute [local go_sem] max2_int min2_int max_two min_two max_three min_three max_four min_four
set_option linter.unusedVariables false
set_option linter.unusedSimpArgs false
theorem info65 : (Try.prog.info? 65).map (fun i => (i.zero, i.size, i.bytes)) = some (some (.agg #[.string ⟨#[]⟩, .string ⟨#[]⟩]), 2, 32) := by kernel_rfl
theorem info67 : (Try.prog.info? 67).map (fun i => (i.zero, i.size, i.bytes)) = some (some (.agg #[.string ⟨#[]⟩, .bool false, .string ⟨#[]⟩]), 3, 40) := by kernel_rfl
theorem cell_mid {w : World} {g T : Nat} {pre post : List Value} {v : Value} {j : Nat} (hj : pre.length = j) (h : w.heap[g]? = some (.cells (pre ++ v :: post).toArray T (0, 0))) : w.cell? ⟨g, j, none⟩ = some v := by
 rw [blk_cell h j]
 simp [← hj]
theorem put_mid (pre post : List Value) (v u : Value) {j : Nat} (hj : pre.length = j) : ((pre ++ v :: post).toArray).toList.take j ++ [u] ++ ((pre ++ v :: post).toArray).toList.drop (j + [u].length) = pre ++ u :: post := by
 simp [← hj, List.take_append, List.drop_append]
theorem fit_mid (pre post : List Value) (v u : Value) {j : Nat} (hj : pre.length = j) : j + [u].length ≤ ((pre ++ v :: post).toArray).size := by
 simp [← hj]
theorem one_cell {u : Value} (h : u.oneCell' = true) : ∀ q ∈ [u], q.oneCell' = true := fun q hq => by rw [List.mem_singleton.1 hq]; exact h
def Far (M g gc : Nat) (w w' : World) : Prop := ∀ i, i < M → i ≠ g → i ≠ gc → w'.heap[i]? = w.heap[i]?
structure Cap {α : Type} (d : Kd α) (e T : Nat) (pre post : List Value) (W0 : World) (M g gc gr : Nat) (X : World → Prop) (w : World) (xs : List α) : Prop where
 row : ∃ v, w.heap[gc]? = some (.cells (pre ++ v :: post).toArray T (0, 0)) ∧ Own d e w M v xs
 ptr : w.heap[gr]? = some (.cells #[.pointer (some ⟨g, 0, none⟩)] 99 (0, 0))
 lts : g < M ∧ gc < M ∧ gr < M ∧ gc ≠ g ∧ gr ≠ g ∧ gr ≠ gc ∧ W0.heap.size ≤ M ∧ W0.heap.size ≤ gc ∧ M ≤ w.heap.size
 ext : X w
theorem Cap.keep {α : Type} {d : Kd α} {e T : Nat} {pre post : List Value} {W0 : World} {M g gc gr : Nat} {X : World → Prop} (hX : ∀ w w', X w → Far M g gc w w' → X w') {w w' : World} {xs : List α} (h : Cap d e T pre post W0 M g gc gr X w xs) (k : KeepBut w w' g none) : Cap d e T pre post W0 M g gc gr X w' xs := by
 obtain ⟨⟨v, h1, h2⟩, h3, h4, h5⟩ := h
 obtain ⟨a1, a2, a3, a4, a5, a6, a7, a8, a9⟩ := h4
 exact ⟨⟨v, k.blk h1 a4 (by simp), h2.keep k a1⟩, k.blk h3 a5 (by simp), ⟨a1, a2, a3, a4, a5, a6, a7, a8, Nat.le_trans a9 k.1⟩, hX _ _ h5 (fun i hi hg _ => k.2 i (Nat.lt_of_lt_of_le hi a9) hg (by simp))⟩
theorem far_keep {M g gc : Nat} {w w' : World} (k : KeepBut w w' g none) (h : M ≤ w.heap.size) : Far M g gc w w' := fun i hi hg _ => k.2 i (Nat.lt_of_lt_of_le hi h) hg (by simp)
theorem far_below {M g gc : Nat} {w w' : World} (h : Below M w w') : Far M g gc w w' := fun i hi _ _ => h.block i hi
theorem far_only {M g gc : Nat} {w w' : World} (h : w.grownBy w' (some gc)) (hM : M ≤ w.heap.size) : Far M g gc w w' := fun i hi _ hc => h.block i (Nat.lt_of_lt_of_le hi hM) (fun e => by injection e with e; exact hc e)
def gY (x : S23) : Prop := In64 x.f0 ∧ In64 x.f1 ∧ In64 x.f2 ∧ In64 x.f3
def gS (x : S25) : Prop := In64 x.f0 ∧ In64 x.f1
theorem keep_drewR {w w1 : World} {g : Nat} (h : KeepBut w w1 g none) : KeepBut w w1.drew g none := h
theorem Own.drew {α : Type} {d : Kd α} {e M : Nat} {w : World} {v : Value} {xs : List α} (h : Own d e w M v xs) : Own d e w.drew M v xs := Kd.R_drew h
theorem cell_one {w : World} {g T : Nat} {v : Value} (h : w.heap[g]? = some (.cells #[v] T (0, 0))) : w.cell? ⟨g, 0, none⟩ = some v := (blk_cell h 0).trans rfl
set_option maxHeartbeats 4000000 in
set_option maxRecDepth 100000 in
theorem try_calls {W0 w : World} {g : Nat} {l : List Int} {s : Bool} (h : RD 101 W0 w g l s) :
  Calls Try.prog 57 #[.pointer (some ⟨g, 0, none⟩)] w (Rdq 101 W0 w g pY (fun v => .agg #[.int .i64 v.f0, .int .i64 v.f1, .int .i64 v.f2, .int .i64 v.f3]) (gY) l s) := by
 have HR := Aside0.mk h
 have HGL := Aside0.mk h.lt
 have HW0 := Aside0.mk h.belowW.size
 clear h
 go_enter Try.func57, Try.ntmps57
 go_wp2_with (first | ((with_reducible refine gate_dst (N := 2) rfl ?_); refine box_event ?hg (N := 2) ?hd (cs := #[.int .i64 0, .int .i64 0, .int .i64 0, .int .i64 0]) (t := 23) ?hr ?_; (case hd => rfl); (case hg => rfl); (case hr => first | (go_simp; done) | (go_simp; rfl)); intro gb hg wb hbox hb; have HK := Aside0.mk (KeepBut.of_below hb g none); have BK := Aside0.mk hbox; have GE := Aside0.mk (Nat.le_of_eq hg.symm); have NE := Aside0.mk (show gb ≠ g from by rw [hg]; exact Nat.ne_of_gt HGL.out); have WE := Aside0.mk (show W0.heap.size ≤ gb from by rw [hg]; exact HW0.out); have HR0 := Aside0.mk (HR.out.below hb); clear HR; have HR := HR0; clear HR0; clear hg hbox hb) | ((with_reducible refine gate_callee (f := 56) rfl ?_); refine goesL_ (some 4) rfl rfl Try.func56 (by kernel_rfl) rfl #[.pointer (some ⟨g, 0, none⟩)] rfl (by (try simp only [List.map_toArray, List.map_cons, List.map_nil]); first | done | rfl) ?_; (with_reducible refine (int_calls HR.out).mono ?_); rintro e w1 ⟨x1, l1, s1, rfl, h1, k1, st, gd⟩; refine ⟨_, rfl, ?_⟩; have n0_ := Aside0.mk (h1); have n1_ := Aside0.mk (keep_trans HK.out k1); have n2_ := Aside0.mk (k1.blk BK.out NE.out (by simp)); clear HR; clear HK; clear BK; have HR := n0_; have HK := n1_; have BK := n2_; clear n0_; clear n1_; clear n2_; have ST1 := Aside0.mk st; have GD1 := Aside0.mk gd; clear h1 k1 st gd) | ((with_reducible refine gate_callee (f := 56) rfl ?_); refine goesL_ (some 6) rfl rfl Try.func56 (by kernel_rfl) rfl #[.pointer (some ⟨g, 0, none⟩)] rfl (by (try simp only [List.map_toArray, List.map_cons, List.map_nil]); first | done | rfl) ?_; (with_reducible refine (int_calls HR.out).mono ?_); rintro e w2 ⟨x2, l2, s2, rfl, h1, k1, st, gd⟩; refine ⟨_, rfl, ?_⟩; have n0_ := Aside0.mk (h1); have n1_ := Aside0.mk (keep_trans HK.out k1); have n2_ := Aside0.mk (k1.blk BK.out NE.out (by simp)); clear HR; clear HK; clear BK; have HR := n0_; have HK := n1_; have BK := n2_; clear n0_; clear n1_; clear n2_; have ST2 := Aside0.mk st; have GD2 := Aside0.mk gd; clear h1 k1 st gd) | ((with_reducible refine gate_callee (f := 56) rfl ?_); refine goesL_ (some 8) rfl rfl Try.func56 (by kernel_rfl) rfl #[.pointer (some ⟨g, 0, none⟩)] rfl (by (try simp only [List.map_toArray, List.map_cons, List.map_nil]); first | done | rfl) ?_; (with_reducible refine (int_calls HR.out).mono ?_); rintro e w3 ⟨x3, l3, s3, rfl, h1, k1, st, gd⟩; refine ⟨_, rfl, ?_⟩; have n0_ := Aside0.mk (h1); have n1_ := Aside0.mk (keep_trans HK.out k1); have n2_ := Aside0.mk (k1.blk BK.out NE.out (by simp)); clear HR; clear HK; clear BK; have HR := n0_; have HK := n1_; have BK := n2_; clear n0_; clear n1_; clear n2_; have ST3 := Aside0.mk st; have GD3 := Aside0.mk gd; clear h1 k1 st gd) | ((with_reducible refine gate_callee (f := 56) rfl ?_); refine goesL_ (some 10) rfl rfl Try.func56 (by kernel_rfl) rfl #[.pointer (some ⟨g, 0, none⟩)] rfl (by (try simp only [List.map_toArray, List.map_cons, List.map_nil]); first | done | rfl) ?_; (with_reducible refine (int_calls HR.out).mono ?_); rintro e w4 ⟨x4, l4, s4, rfl, h1, k1, st, gd⟩; refine ⟨_, rfl, ?_⟩; have n0_ := Aside0.mk (h1); have n1_ := Aside0.mk (keep_trans HK.out k1); have n2_ := Aside0.mk (k1.blk BK.out NE.out (by simp)); clear HR; clear HK; clear BK; have HR := n0_; have HK := n1_; have BK := n2_; clear n0_; clear n1_; clear n2_; have ST4 := Aside0.mk st; have GD4 := Aside0.mk gd; clear h1 k1 st gd) | ((with_reducible refine gate_store (t := 23) (p := 2) rfl ?_); refine store_blk ?hgd (t := 23) (p := 2) (x := .tmp 11) ?ho ?hN (off := 0) (u := .agg #[.int .i64 x1, .int .i64 x2, .int .i64 x3, .int .i64 x4]) (seg := ?_) [.int .i64 x1, .int .i64 x2, .int .i64 x3, .int .i64 x4] ?hp ?hx BK.out ?hu ?ht ?hfit ?h1 ?hnew ?_; (case hgd => rfl); (case ho => rfl); (case hN => rfl); (case hp => rfl); (case hx => rfl); (case hu => rfl); (case ht => kernel_rfl); (case hfit => exact Nat.le_of_ble_eq_true rfl); (case h1 => exact (List.forall_mem_cons.2 ⟨rfl, List.forall_mem_cons.2 ⟨rfl, List.forall_mem_cons.2 ⟨rfl, List.forall_mem_cons.2 ⟨rfl, (fun _ h => by cases h)⟩⟩⟩⟩)); (case hnew => rfl); intro wS hS hgS; have n0_ := Aside0.mk (HR.out.only hgS (Ne.symm NE.out) WE.out); have n1_ := Aside0.mk (keep_only HK.out hgS GE.out); have n2_ := Aside0.mk (hS); clear HR; clear HK; clear BK; have HR := n0_; have HK := n1_; have BK := n2_; clear n0_; clear n1_; clear n2_; clear hS hgS))
 exact bodyPost_ret (results_c rfl _ _ gb 23 _ _ rfl BK.out Try.underlying23 rfl (by kernel_rfl)) rfl ⟨⟨x1, x2, x3, x4⟩, l4, s4, rfl, HR.out, HK.out, ST1.out.bind (ST2.out.bind (ST3.out.bind (ST4.out.bind (Step.pure _ _ _)))), ⟨GD1.out, GD2.out, GD3.out, GD4.out⟩⟩
set_option maxHeartbeats 4000000 in
set_option maxRecDepth 100000 in
theorem moment_calls {W0 w : World} {g : Nat} {l : List Int} {s : Bool} (h : RD 101 W0 w g l s) :
  Calls Try.prog 58 #[.pointer (some ⟨g, 0, none⟩)] w (Rdq 101 W0 w g pS (fun v => .agg #[.int .i64 v.f0, .int .i64 v.f1]) (gS) l s) := by
 obtain ⟨a_, b_, e_, htk, ha, hb_, hst⟩ := step_stamp l h.bytes s
 have HS := Aside0.mk hst
 have HGS := Aside0.mk (show gS ⟨a_, b_⟩ from ⟨ha, hb_⟩)
 obtain ⟨m, hm⟩ : ∃ m : Nat, m = min 16 l.length := ⟨_, rfl⟩
 obtain ⟨tk, ht⟩ : ∃ tk, tk = l.take m := ⟨_, rfl⟩
 rw [← hm, ← ht] at htk
 have hmin : (if (l.length : Int) < 16 then (l.length : Int) else 16) = (m : Int) := by split <;> omega
 have hR := h
 obtain ⟨A, c, hg0, hlc, hC, hW, hB, hby, hsh⟩ := h
 have htl : tk.length = m := by rw [ht, List.length_take]; omega
 have HT := Aside0.mk ((take_calls (l := tk) (fun x hx => hby x (by rw [ht] at hx; exact List.mem_of_mem_take hx)) (by omega)).trans (congrArg some htk))
 have HCT := Aside0.mk (show Kd.C (Kd.int .u8) W0 A tk.length tk from by rw [ht]; exact Kd.C_take (m := m) hC (by omega))
 have HCL := Aside0.mk (show tk.length ≤ c from by omega)
 obtain ⟨i0, hi, _, hsz, _⟩ := info_parts info5
 have hcut := cut_to (P := Try.prog) 46 5 .i64 Try.underlying46 hi A l.length c (m : Int) (by omega) (by omega) hlc
 simp only [Int.toNat_natCast] at hcut
 rw [← htl] at hcut
 rw [← htl] at hmin
 have HG := Aside0.mk hg0
 have HR := Aside0.mk hR
 have HGL := Aside0.mk hR.lt
 have HW0 := Aside0.mk hR.belowW.size
 clear hst ha hb_ hm ht htk hR hg0 hlc hC hW hB hby hsh htl hi hsz
 go_enter Try.func58, Try.ntmps58
 go_upto_region 1 with (first | ((with_reducible refine gate_dst (N := 2) rfl ?_); refine box_event ?hg (N := 2) ?hd (cs := #[.int .i64 0, .int .i64 0]) (t := 25) ?hr ?_; (case hd => rfl); (case hg => rfl); (case hr => first | (go_simp; done) | (go_simp; rfl)); intro gb hg wb hbox hb; have HK := Aside0.mk (KeepBut.of_below hb g none); have BK := Aside0.mk hbox; have GE := Aside0.mk (Nat.le_of_eq hg.symm); have NE := Aside0.mk (show gb ≠ g from by rw [hg]; exact Nat.ne_of_gt HGL.out); have WE := Aside0.mk (show W0.heap.size ≤ gb from by rw [hg]; exact HW0.out); have HR0 := Aside0.mk (HR.out.below hb); clear HR; have HR := HR0; clear HR0; have HGn := Aside0.mk (blk_below HG.out hb); clear HG; have HG := HGn; clear HGn hg hbox hb))
 have n0_ := Aside0.mk (HR.out.drew)
 have n1_ := Aside0.mk (keep_drewR HK.out)
 have n2_ := Aside0.mk (blk_drew BK.out)
 have n3_ := Aside0.mk (blk_drew HG.out)
 clear HR
 clear HK
 clear BK
 clear HG
 have HR := n0_
 have HK := n1_
 have BK := n2_
 have HG := n3_
 clear n0_
 clear n1_
 clear n2_
 clear n3_
 refine start_ (n := 18) (S := fun w' => w'.cell? ⟨g, 0, none⟩ = some (.slice A l.length c)) (ds := []) #[false, false, false, false, false, false, false, false, false, false, false, false, false, false, false, false, false, false] (by kernel_rfl) rfl rfl (((blk_cell HG.out 0).trans rfl)) (fun hHeld => ?_)
 refine pure_ (i := 0) (N := some 6) (v := ?_) (a' := ?_) #[true, false, false, false, false, false, false, false, false, false, false, false, false, false, false, false, false, false] rfl rfl (by kernel_rfl) (fun _ _ _ h => h) (Or.inl ⟨by rfl, ?_⟩) ?_ ?_
 rotate_left
 ·intro w'
  go_simp
  with_reducible rfl
 rotate_left
 ·simp only [Act.put, List.setIfInBounds_toArray, List.set_cons_zero, List.set_cons_succ, i64_w, i32_w]
  rfl
 refine pure_ (i := 1) (N := some 7) (v := ?_) (a' := ?_) #[true, true, false, false, false, false, false, false, false, false, false, false, false, false, false, false, false, false] rfl rfl (by kernel_rfl) (fun _ _ _ h => h) (Or.inl ⟨by rfl, ?_⟩) ?_ ?_
 rotate_left
 ·intro w'
  go_simp
  with_reducible rfl
 rotate_left
 ·simp only [Act.put, List.setIfInBounds_toArray, List.set_cons_zero, List.set_cons_succ, i64_w, i32_w]
  rfl
 refine pure_ (i := 2) (N := some 8) (v := ?_) (a' := ?_) #[true, true, true, false, false, false, false, false, false, false, false, false, false, false, false, false, false, false] rfl rfl (by kernel_rfl) (fun _ _ _ h => h) (Or.inl ⟨by rfl, ?_⟩) ?_ ?_
 rotate_left
 ·intro w'
  go_simp
  with_reducible rfl
 rotate_left
 ·simp only [Act.put, List.setIfInBounds_toArray, List.set_cons_zero, List.set_cons_succ, i64_w, i32_w]
  rfl
 refine pure_ (i := 4) (N := some 10) (v := ?_) (a' := ?_) #[true, true, true, false, true, false, false, false, false, false, false, false, false, false, false, false, false, false] rfl rfl (by kernel_rfl) (fun _ _ _ h => h) (Or.inl ⟨by rfl, ?_⟩) ?_ ?_
 rotate_left
 ·intro w'
  go_simp
  with_reducible rfl
 rotate_left
 ·simp only [Act.put, List.setIfInBounds_toArray, List.set_cons_zero, List.set_cons_succ, i64_w, i32_w]
  rfl
 refine pure_ (i := 5) (N := some 11) (v := ?_) (a' := ?_) #[true, true, true, false, true, true, false, false, false, false, false, false, false, false, false, false, false, false] rfl rfl (by kernel_rfl) (fun _ _ _ h => h) (Or.inl ⟨by rfl, ?_⟩) ?_ ?_
 rotate_left
 ·intro w'
  go_simp
  with_reducible rfl
 rotate_left
 ·simp only [Act.put, List.setIfInBounds_toArray, List.set_cons_zero, List.set_cons_succ, i64_w, i32_w]
  rfl
 refine pure_ (i := 6) (N := some 12) (v := ?_) (a' := ?_) #[true, true, true, false, true, true, true, false, false, false, false, false, false, false, false, false, false, false] rfl rfl (by kernel_rfl) (fun _ _ _ h => h) (Or.inl ⟨by rfl, ?_⟩) ?_ ?_
 rotate_left
 ·intro w'
  go_simp
  with_reducible rfl
 rotate_left
 ·simp only [Act.put, List.setIfInBounds_toArray, List.set_cons_zero, List.set_cons_succ, i64_w, i32_w]
  rfl
 refine take_ (i := 3) (N := some 9) (v := ?_) (a' := ?_) #[true, true, true, true, true, true, true, false, false, false, false, false, false, false, false, false, false, false] rfl rfl (by kernel_rfl) (fun _ _ _ h => h) (Or.inl ⟨by rfl, ?_⟩) hHeld ?_ ?_
 rotate_left
 ·intro w' s0
  go_simp
  with_reducible rfl
 rotate_left
 ·simp only [Act.put, List.setIfInBounds_toArray, List.set_cons_zero, List.set_cons_succ, i64_w, i32_w]
  rfl
 refine take_ (i := 7) (N := some 13) (v := ?_) (a' := ?_) #[true, true, true, true, true, true, true, true, false, false, false, false, false, false, false, false, false, false] rfl rfl (by kernel_rfl) (fun _ _ _ h => h) (Or.inl ⟨by rfl, ?_⟩) hHeld ?_ ?_
 rotate_left
 ·intro w' s0
  go_simp
  with_reducible rfl
 rotate_left
 ·simp only [Act.put, List.setIfInBounds_toArray, List.set_cons_zero, List.set_cons_succ, i64_w, i32_w]
  rfl
 refine pure_ (i := 8) (N := some 14) (v := ?_) (a' := ?_) #[true, true, true, true, true, true, true, true, true, false, false, false, false, false, false, false, false, false] rfl rfl (by kernel_rfl) (fun _ _ _ h => h) (Or.inl ⟨by rfl, ?_⟩) ?_ ?_
 rotate_left
 ·intro w'
  go_simp
  with_reducible rfl
 rotate_left
 ·simp only [Act.put, List.setIfInBounds_toArray, List.set_cons_zero, List.set_cons_succ, i64_w, i32_w]
  rfl
 refine pure_ (i := 9) (N := some 15) (v := ?_) (a' := ?_) #[true, true, true, true, true, true, true, true, true, true, false, false, false, false, false, false, false, false] rfl rfl (by kernel_rfl) (fun _ _ _ h => h) (Or.inl ⟨by rfl, ?_⟩) ?_ ?_
 rotate_left
 ·intro w'
  go_simp
  with_reducible rfl
 rotate_left
 ·simp only [Act.put, List.setIfInBounds_toArray, List.set_cons_zero, List.set_cons_succ, i64_w, i32_w]
  rfl
 refine pure_ (i := 10) (N := some 16) (v := ?_) (a' := ?_) #[true, true, true, true, true, true, true, true, true, true, true, false, false, false, false, false, false, false] rfl rfl (by kernel_rfl) (fun _ _ _ h => h) (Or.inl ⟨by rfl, ?_⟩) ?_ ?_
 rotate_left
 ·intro w'
  go_simp
  with_reducible rfl
 rotate_left
 ·simp only [Act.put, List.setIfInBounds_toArray, List.set_cons_zero, List.set_cons_succ, i64_w, i32_w]
  rfl
 refine join_ (σ := Nat) 2 #[true, true, true, true, true, true, true, true, true, true, true, true, true, true, true, true, false, false] (fun s_ => [(17, .tuple #[.agg #[.int .i64 a_, .int .i64 b_], .int .i64 e_]), (5, .tuple #[.agg #[.int .i64 a_, .int .i64 b_], .int .i64 e_]), (18, .agg #[.int .i64 a_, .int .i64 b_]), (19, .int .i64 e_), (3, .pointer (some ⟨s_, 0, none⟩))]) (fun s_ w' => RD 101 W0 w' g l s ∧ KeepBut w w' g none ∧ w'.heap[gb]? = some (.cells #[.int .i64 0, .int .i64 0] 25 (0, 0)) ∧ w'.heap[s_]? = some (.cells #[.int .i64 0, .int .i64 0] 25 (0, 0)) ∧ w'.heap[g]? = some (.cells #[.slice A l.length c, .bool s] 101 (0, 0)) ∧ s_ ≠ g ∧ s_ ≠ gb ∧ w.heap.size ≤ s_ ∧ W0.heap.size ≤ s_) ?_ ?_
 rotate_left
 ·intro hCont
  refine two_ (i := 11) (j := 15) (Ni := some 17) (Nj := some 3) #[true, true, true, true, true, true, true, true, true, true, true, true, false, false, false, false, false, false] #[true, true, true, true, true, true, true, true, true, true, true, false, false, false, false, true, false, false] rfl rfl rfl rfl (by kernel_rfl) (by decide) (by decide) (fun K hK => ?_) (fun K hK => ?_)
  ·skip
   refine goes_ Try.func92 (by kernel_rfl) rfl #[.slice A tk.length c] (by rfl) rfl rfl (by simp only [List.map_toArray, List.map_cons, List.map_nil]; rfl) ?_
   with_reducible refine (stamp_Take.calls 40 A c tk a_ b_ e_ _ (Kd.C_below HCT.out HR.out.belowW) HCL.out HT.out).mono ?_
   rintro e w3 ⟨rfl, hb⟩
   refine ⟨_, rfl, ?_⟩
   have n0_ := Aside0.mk (HR.out.below hb)
   have n1_ := Aside0.mk (keep_trans HK.out (KeepBut.of_below hb g none))
   have n2_ := Aside0.mk (blk_below BK.out hb)
   have n3_ := Aside0.mk (blk_below HG.out hb)
   clear HR
   clear HK
   clear BK
   clear HG
   have HR := n0_
   have HK := n1_
   have BK := n2_
   have HG := n3_
   clear n0_
   clear n1_
   clear n2_
   clear n3_
   clear hb
   refine hK.out _ _ (((blk_cell HG.out 0).trans rfl)) (fun hHeld => ?_)
   clear hK K
   refine norm_ (a' := ?_) ?_ ?_
   rotate_left
   ·show Act.put _ (some 17) _ = _
    simp only [Act.put, List.setIfInBounds_toArray, List.set_cons_zero, List.set_cons_succ, i64_w, i32_w]
    rfl
   refine pure_ (i := 12) (N := some 5) (v := ?_) (a' := ?_) #[true, true, true, true, true, true, true, true, true, true, true, true, true, false, false, false, false, false] rfl rfl (by kernel_rfl) (fun _ _ _ h => h) (Or.inl ⟨by rfl, ?_⟩) ?_ ?_
   rotate_left
   ·intro w'
    go_simp
    with_reducible rfl
   rotate_left
   ·simp only [Act.put, List.setIfInBounds_toArray, List.set_cons_zero, List.set_cons_succ, i64_w, i32_w]
    rfl
   refine pure_ (i := 13) (N := some 18) (v := ?_) (a' := ?_) #[true, true, true, true, true, true, true, true, true, true, true, true, true, true, false, false, false, false] rfl rfl (by kernel_rfl) (fun _ _ _ h => h) (Or.inl ⟨by rfl, ?_⟩) ?_ ?_
   rotate_left
   ·intro w'
    go_simp
    with_reducible rfl
   rotate_left
   ·simp only [Act.put, List.setIfInBounds_toArray, List.set_cons_zero, List.set_cons_succ, i64_w, i32_w]
    rfl
   refine pure_ (i := 14) (N := some 19) (v := ?_) (a' := ?_) #[true, true, true, true, true, true, true, true, true, true, true, true, true, true, true, false, false, false] rfl rfl (by kernel_rfl) (fun _ _ _ h => h) (Or.inl ⟨by rfl, ?_⟩) ?_ ?_
   rotate_left
   ·intro w'
    go_simp
    with_reducible rfl
   rotate_left
   ·simp only [Act.put, List.setIfInBounds_toArray, List.set_cons_zero, List.set_cons_succ, i64_w, i32_w]
    rfl
   refine one_ (i := 15) (N := some 3) #[true, true, true, true, true, true, true, true, true, true, true, true, true, true, true, true, false, false] rfl rfl (by kernel_rfl) (by decide) (fun K hK => ?_)
   refine box_step (by rfl) (N := 3) rfl (cs := #[.int .i64 0, .int .i64 0]) (t := 25) ?hr_ ?_
   case hr_ => first | (go_simp; done) | (go_simp; rfl)
   intro g3 hg3 w4 hbox hb
   have NG := Aside0.mk (show g3 ≠ g from by rw [hg3]; exact Nat.ne_of_gt HR.out.lt)
   have NB := Aside0.mk (show g3 ≠ gb from by rw [hg3]; exact Nat.ne_of_gt (blk_lt BK.out))
   have GE3 := Aside0.mk (show w.heap.size ≤ g3 from by rw [hg3]; exact HK.out.1)
   have WE3 := Aside0.mk (Nat.le_trans HW0.out GE3.out)
   have n0_ := Aside0.mk (HR.out.below hb)
   have n1_ := Aside0.mk (keep_trans HK.out (KeepBut.of_below hb g none))
   have n2_ := Aside0.mk (blk_below BK.out hb)
   have n3_ := Aside0.mk (blk_below HG.out hb)
   clear HR
   clear HK
   clear BK
   clear HG
   have HR := n0_
   have HK := n1_
   have BK := n2_
   have HG := n3_
   clear n0_
   clear n1_
   clear n2_
   clear n3_
   have BK3 := Aside0.mk hbox
   clear hg3 hbox hb
   refine hK.out _ _ (((blk_cell HG.out 0).trans rfl)) (fun hHeld => ?_)
   clear hK K
   refine norm_ (a' := ?_) ?_ ?_
   rotate_left
   ·show Act.put _ (some 3) _ = _
    simp only [Act.put, List.setIfInBounds_toArray, List.set_cons_zero, List.set_cons_succ, i64_w, i32_w]
    rfl
   exact norm_ (by simp only [putAll, Act.put, List.setIfInBounds_toArray, List.set_cons_zero, List.set_cons_succ]) (hCont g3 _ ⟨HR.out, HK.out, BK.out, BK3.out, HG.out, NG.out, NB.out, GE3.out, WE3.out⟩)
  ·skip
   refine box_step (by rfl) (N := 3) rfl (cs := #[.int .i64 0, .int .i64 0]) (t := 25) ?hr_ ?_
   case hr_ => first | (go_simp; done) | (go_simp; rfl)
   intro g3 hg3 w4 hbox hb
   have NG := Aside0.mk (show g3 ≠ g from by rw [hg3]; exact Nat.ne_of_gt HR.out.lt)
   have NB := Aside0.mk (show g3 ≠ gb from by rw [hg3]; exact Nat.ne_of_gt (blk_lt BK.out))
   have GE3 := Aside0.mk (show w.heap.size ≤ g3 from by rw [hg3]; exact HK.out.1)
   have WE3 := Aside0.mk (Nat.le_trans HW0.out GE3.out)
   have n0_ := Aside0.mk (HR.out.below hb)
   have n1_ := Aside0.mk (keep_trans HK.out (KeepBut.of_below hb g none))
   have n2_ := Aside0.mk (blk_below BK.out hb)
   have n3_ := Aside0.mk (blk_below HG.out hb)
   clear HR
   clear HK
   clear BK
   clear HG
   have HR := n0_
   have HK := n1_
   have BK := n2_
   have HG := n3_
   clear n0_
   clear n1_
   clear n2_
   clear n3_
   have BK3 := Aside0.mk hbox
   clear hg3 hbox hb
   refine hK.out _ _ (((blk_cell HG.out 0).trans rfl)) (fun hHeld => ?_)
   clear hK K
   refine norm_ (a' := ?_) ?_ ?_
   rotate_left
   ·show Act.put _ (some 3) _ = _
    simp only [Act.put, List.setIfInBounds_toArray, List.set_cons_zero, List.set_cons_succ, i64_w, i32_w]
    rfl
   refine one_ (i := 11) (N := some 17) #[true, true, true, true, true, true, true, true, true, true, true, true, false, false, false, true, false, false] rfl rfl (by kernel_rfl) (by decide) (fun K hK => ?_)
   refine goes_ Try.func92 (by kernel_rfl) rfl #[.slice A tk.length c] (by rfl) rfl rfl (by simp only [List.map_toArray, List.map_cons, List.map_nil]; rfl) ?_
   with_reducible refine (stamp_Take.calls 40 A c tk a_ b_ e_ _ (Kd.C_below HCT.out HR.out.belowW) HCL.out HT.out).mono ?_
   rintro e w3 ⟨rfl, hb⟩
   refine ⟨_, rfl, ?_⟩
   have n0_ := Aside0.mk (HR.out.below hb)
   have n1_ := Aside0.mk (keep_trans HK.out (KeepBut.of_below hb g none))
   have n2_ := Aside0.mk (blk_below BK.out hb)
   have n3_ := Aside0.mk (blk_below HG.out hb)
   have n4_ := Aside0.mk (blk_below BK3.out hb)
   clear HR
   clear HK
   clear BK
   clear HG
   clear BK3
   have HR := n0_
   have HK := n1_
   have BK := n2_
   have HG := n3_
   have BK3 := n4_
   clear n0_
   clear n1_
   clear n2_
   clear n3_
   clear n4_
   clear hb
   refine hK.out _ _ (((blk_cell HG.out 0).trans rfl)) (fun hHeld => ?_)
   clear hK K
   refine norm_ (a' := ?_) ?_ ?_
   rotate_left
   ·show Act.put _ (some 17) _ = _
    simp only [Act.put, List.setIfInBounds_toArray, List.set_cons_zero, List.set_cons_succ, i64_w, i32_w]
    rfl
   refine pure_ (i := 12) (N := some 5) (v := ?_) (a' := ?_) #[true, true, true, true, true, true, true, true, true, true, true, true, true, false, false, true, false, false] rfl rfl (by kernel_rfl) (fun _ _ _ h => h) (Or.inl ⟨by rfl, ?_⟩) ?_ ?_
   rotate_left
   ·intro w'
    go_simp
    with_reducible rfl
   rotate_left
   ·simp only [Act.put, List.setIfInBounds_toArray, List.set_cons_zero, List.set_cons_succ, i64_w, i32_w]
    rfl
   refine pure_ (i := 13) (N := some 18) (v := ?_) (a' := ?_) #[true, true, true, true, true, true, true, true, true, true, true, true, true, true, false, true, false, false] rfl rfl (by kernel_rfl) (fun _ _ _ h => h) (Or.inl ⟨by rfl, ?_⟩) ?_ ?_
   rotate_left
   ·intro w'
    go_simp
    with_reducible rfl
   rotate_left
   ·simp only [Act.put, List.setIfInBounds_toArray, List.set_cons_zero, List.set_cons_succ, i64_w, i32_w]
    rfl
   refine pure_ (i := 14) (N := some 19) (v := ?_) (a' := ?_) #[true, true, true, true, true, true, true, true, true, true, true, true, true, true, true, true, false, false] rfl rfl (by kernel_rfl) (fun _ _ _ h => h) (Or.inl ⟨by rfl, ?_⟩) ?_ ?_
   rotate_left
   ·intro w'
    go_simp
    with_reducible rfl
   rotate_left
   ·simp only [Act.put, List.setIfInBounds_toArray, List.set_cons_zero, List.set_cons_succ, i64_w, i32_w]
    rfl
   exact norm_ (by simp only [putAll, Act.put, List.setIfInBounds_toArray, List.set_cons_zero, List.set_cons_succ]) (hCont g3 _ ⟨HR.out, HK.out, BK.out, BK3.out, HG.out, NG.out, NB.out, GE3.out, WE3.out⟩)
 clear HR HK BK HG
 rintro g3 w5 ⟨h1, h2, h3, h4, h5, h6, h7, h8, h9⟩
 have HR := Aside0.mk h1
 have HK := Aside0.mk h2
 have BK := Aside0.mk h3
 have BK3 := Aside0.mk h4
 have HG := Aside0.mk h5
 have NG := Aside0.mk h6
 have NB := Aside0.mk h7
 have GE3 := Aside0.mk h8
 have WE3 := Aside0.mk h9
 clear h1 h2 h3 h4 h5 h6 h7 h8 h9
 have hHeld : w5.cell? ⟨g, 0, none⟩ = some (.slice A l.length c) := (blk_cell HG.out 0).trans rfl
 refine norm_ (a' := ?_) ?_ ?_
 rotate_left
 ·simp only [putAll, Act.put, List.setIfInBounds_toArray, List.set_cons_zero, List.set_cons_succ]
  rfl
 refine one_ (i := 16) (N := none) #[true, true, true, true, true, true, true, true, true, true, true, true, true, true, true, true, true, false] rfl rfl (by kernel_rfl) (by decide) (fun K hK => ?_)
 refine store_blk_step (by rfl) (t := 25) (p := 3) (x := .tmp 18) rfl rfl (off := 0) (u := .agg #[.int .i64 a_, .int .i64 b_]) (seg := _) [.int .i64 a_, .int .i64 b_] rfl rfl BK3.out rfl (by kernel_rfl) (Nat.le_of_ble_eq_true rfl) (List.forall_mem_cons.2 ⟨rfl, List.forall_mem_cons.2 ⟨rfl, (fun _ h => by cases h)⟩⟩) rfl ?_
 intro wS hS hgS
 have n0_ := Aside0.mk (HR.out.only hgS (Ne.symm NG.out) WE3.out)
 have n1_ := Aside0.mk (keep_only HK.out hgS GE3.out)
 have n2_ := Aside0.mk (blk_only BK.out hgS (Ne.symm NB.out))
 have n3_ := Aside0.mk (blk_only HG.out hgS (Ne.symm NG.out))
 have n4_ := Aside0.mk (hS)
 clear HR
 clear HK
 clear BK
 clear HG
 clear BK3
 have HR := n0_
 have HK := n1_
 have BK := n2_
 have HG := n3_
 have BK3 := n4_
 clear n0_
 clear n1_
 clear n2_
 clear n3_
 clear n4_
 clear hS hgS
 refine hK.out _ _ (((blk_cell HG.out 0).trans rfl)) (fun hHeld => ?_)
 clear hK K
 refine pure_ (i := 17) (N := some 4) (v := ?_) (a' := ?_) #[true, true, true, true, true, true, true, true, true, true, true, true, true, true, true, true, true, true] rfl rfl (by kernel_rfl) (fun _ _ _ h => h) (Or.inl ⟨by rfl, ?_⟩) ?_ ?_
 rotate_left
 ·intro w'
  go_simp
  with_reducible rfl
 rotate_left
 ·simp only [Act.put, List.setIfInBounds_toArray, List.set_cons_zero, List.set_cons_succ, i64_w, i32_w]
  rfl
 refine done_ (by kernel_rfl) ?_
 clear HG
 go_wp2_with (first | ((with_reducible refine gate_callee (f := 90) rfl ?_); refine goesL_ (some 22) rfl rfl Try.func90 (by kernel_rfl) rfl #[.pointer (some ⟨g, 0, none⟩), .int .i64 e_] rfl (by (try simp only [List.map_toArray, List.map_cons, List.map_nil]); first | done | rfl) ?_; (with_reducible refine (fails_calls (n := e_) HR.out).mono ?_); rintro e w2 ⟨rfl, h1, k1⟩; refine ⟨_, rfl, ?_⟩; have n0_ := Aside0.mk (h1); have n1_ := Aside0.mk (keep_trans HK.out k1); have n2_ := Aside0.mk (k1.blk BK.out NE.out (by simp)); have n3_ := Aside0.mk (k1.blk BK3.out NG.out (by simp)); clear HR; clear HK; clear BK; clear BK3; have HR := n0_; have HK := n1_; have BK := n2_; have BK3 := n3_; clear n0_; clear n1_; clear n2_; clear n3_; clear h1 k1) | ((with_reducible refine gate_callee (f := 91) rfl ?_); refine goesL_ (some 24) rfl rfl Try.func91 (by kernel_rfl) rfl #[.pointer (some ⟨g, 0, none⟩), .int .i64 16] rfl (by (try simp only [List.map_toArray, List.map_cons, List.map_nil]); first | done | rfl) ?_; (with_reducible refine (skip_calls HR.out (by omega)).mono ?_); rintro e w3 ⟨rfl, h1, k1⟩; refine ⟨_, rfl, ?_⟩; have n0_ := Aside0.mk (h1); have n1_ := Aside0.mk (keep_trans HK.out k1); have n2_ := Aside0.mk (k1.blk BK.out NE.out (by simp)); have n3_ := Aside0.mk (k1.blk BK3.out NG.out (by simp)); clear HR; clear HK; clear BK; clear BK3; have HR := n0_; have HK := n1_; have BK := n2_; have BK3 := n3_; clear n0_; clear n1_; clear n2_; clear n3_; clear h1 k1) | ((with_reducible refine gate_dst (N := 25) rfl ?_); refine load_blk rfl (N := 25) rfl (t := 25) (p := 3) rfl rfl BK3.out Try.underlying25 rfl (by kernel_rfl) ?_) | ((with_reducible refine gate_store (t := 25) (p := 2) rfl ?_); refine store_blk ?hgd (t := 25) (p := 2) (x := .tmp 25) ?ho ?hN (off := 0) (u := .agg #[.int .i64 a_, .int .i64 b_]) (seg := ?_) [.int .i64 a_, .int .i64 b_] ?hp ?hx BK.out ?hu ?ht ?hfit ?h1 ?hnew ?_; (case hgd => rfl); (case ho => rfl); (case hN => rfl); (case hp => rfl); (case hx => rfl); (case hu => rfl); (case ht => kernel_rfl); (case hfit => exact Nat.le_of_ble_eq_true rfl); (case h1 => exact (List.forall_mem_cons.2 ⟨rfl, List.forall_mem_cons.2 ⟨rfl, (fun _ h => by cases h)⟩⟩)); (case hnew => rfl); intro wS hS hgS; have n0_ := Aside0.mk (HR.out.only hgS (Ne.symm NE.out) WE.out); have n1_ := Aside0.mk (keep_only HK.out hgS GE.out); have n2_ := Aside0.mk (hS); have n3_ := Aside0.mk (blk_only BK3.out hgS NB.out); clear HR; clear HK; clear BK; clear BK3; have HR := n0_; have HK := n1_; have BK := n2_; have BK3 := n3_; clear n0_; clear n1_; clear n2_; clear n3_; clear hS hgS))
 exact bodyPost_ret (results_c rfl _ _ gb 25 _ _ rfl BK.out Try.underlying25 rfl (by kernel_rfl)) rfl ⟨⟨a_, b_⟩, _, _, rfl, HR.out, HK.out, HS.out, HGS.out⟩
set_option maxHeartbeats 4000000 in
set_option maxRecDepth 100000 in
theorem span_one {W0 w : World} {M g gc gr : Nat} {X : World → Prop} {pre post : List Value} {l : List Int} {s : Bool} {xs : List _} (hX : ∀ w w', X w → Far M g gc w w' → X w') (hpl : pre.length = 12) (hI : Cap k65 65 29 pre post W0 M g gc gr X w xs) (h : RD 101 W0 w g l s) (hxl : xs.length < 65536) :
  Calls Try.prog 62 #[.pointer (some ⟨gc, 0, none⟩), .pointer (some ⟨gr, 0, none⟩)] w (One W0 g pSpan ((Cap k65 65 29 pre post W0 M g gc gr X)) xs l s) := by
 obtain ⟨⟨v, hc, ho⟩, hr, ⟨a1, a2, a3, a4, a5, a6, a7, a8, a9⟩, hx⟩ := hI
 have HR := Aside0.mk h
 have BC := Aside0.mk hc
 have BR := Aside0.mk hr
 have HO := Aside0.mk ho
 have HX := Aside0.mk hx
 have HXS := Aside0.mk hX
 have HPL := Aside0.mk hpl
 have HXL := Aside0.mk hxl
 have HGM := Aside0.mk a1
 have HCM := Aside0.mk a2
 have HRM := Aside0.mk a3
 have NC := Aside0.mk a4
 have NR := Aside0.mk a5
 have NRC := Aside0.mk a6
 have HWM := Aside0.mk a7
 have WC := Aside0.mk a8
 have HM := Aside0.mk a9
 clear h hc hr ho hx hX hpl hxl a1 a2 a3 a4 a5 a6 a7 a8 a9
 go_enter Try.func62, Try.ntmps62
 go_wp2
 have n0_ := Aside0.mk (HR.out.drew)
 have n1_ := Aside0.mk (blk_drew BC.out)
 have n2_ := Aside0.mk (blk_drew BR.out)
 have n3_ := Aside0.mk (Own.drew HO.out)
 have n4_ := Aside0.mk (HXS.out _ _ HX.out (fun _ _ _ _ => rfl))
 have n5_ := Aside0.mk (HM.out)
 clear HR
 clear BC
 clear BR
 clear HO
 clear HX
 clear HM
 have HR := n0_
 have BC := n1_
 have BR := n2_
 have HO := n3_
 have HX := n4_
 have HM := n5_
 clear n0_
 clear n1_
 clear n2_
 clear n3_
 clear n4_
 clear n5_
 refine start_ (n := 11) (S := fun w' => w'.cell? ⟨gc, 12, none⟩ = some v ∧ w'.cell? ⟨gr, 0, none⟩ = some (.pointer (some ⟨g, 0, none⟩))) (ds := [10]) #[false, false, false, false, false, false, false, false, false, false, false] (by kernel_rfl) rfl rfl ⟨(cell_mid HPL.out BC.out), (cell_one BR.out)⟩ (fun hHeld => ?_)
 refine pure_ (i := 0) (N := some 2) (v := ?_) (a' := ?_) #[true, false, false, false, false, false, false, false, false, false, false] rfl rfl (by kernel_rfl) (fun _ _ _ h => h) (Or.inl ⟨by rfl, ?_⟩) ?_ ?_
 rotate_left
 ·intro w'
  go_simp
  with_reducible rfl
 rotate_left
 ·simp only [Act.put, List.setIfInBounds_toArray, List.set_cons_zero, List.set_cons_succ, i64_w, i32_w]
  rfl
 refine take_ (i := 1) (N := some 3) (v := ?_) (a' := ?_) #[true, true, false, false, false, false, false, false, false, false, false] rfl rfl (by kernel_rfl) (fun _ _ _ h => h) (Or.inl ⟨by rfl, ?_⟩) hHeld ?_ ?_
 rotate_left
 ·rintro w' ⟨s0, s1⟩
  go_simp
  with_reducible rfl
 rotate_left
 ·simp only [Act.put, List.setIfInBounds_toArray, List.set_cons_zero, List.set_cons_succ, i64_w, i32_w]
  rfl
 refine take_ (i := 2) (N := some 4) (v := ?_) (a' := ?_) #[true, true, true, false, false, false, false, false, false, false, false] rfl rfl (by kernel_rfl) (fun _ _ _ h => h) (Or.inl ⟨by rfl, ?_⟩) hHeld ?_ ?_
 rotate_left
 ·rintro w' ⟨s0, s1⟩
  go_simp
  with_reducible rfl
 rotate_left
 ·simp only [Act.put, List.setIfInBounds_toArray, List.set_cons_zero, List.set_cons_succ, i64_w, i32_w]
  rfl
 refine take_ (i := 4) (N := some 6) (v := ?_) (a' := ?_) #[true, true, true, false, true, false, false, false, false, false, false] rfl rfl (by kernel_rfl) (fun _ _ _ h => h) (Or.inl ⟨by rfl, ?_⟩) hHeld ?_ ?_
 rotate_left
 ·rintro w' ⟨s0, s1⟩
  go_simp
  with_reducible rfl
 rotate_left
 ·simp only [Act.put, List.setIfInBounds_toArray, List.set_cons_zero, List.set_cons_succ, i64_w, i32_w]
  rfl
 refine one_ (i := 3) (N := some 5) #[true, true, true, true, true, false, false, false, false, false, false] rfl rfl (by kernel_rfl) (by decide) (fun K hK => ?_)
 refine goes_ Try.func63 (by kernel_rfl) rfl #[.pointer (some ⟨g, 0, none⟩)] (by rfl) rfl rfl (by simp only [List.map_toArray, List.map_cons, List.map_nil]; rfl) ?_
 with_reducible refine (text_calls HR.out).mono ?_
 rintro e w1 ⟨x1, l1, s1, rfl, h1, k1, st, gd⟩
 refine ⟨_, rfl, ?_⟩
 have n0_ := Aside0.mk (h1)
 have n1_ := Aside0.mk (k1.blk BC.out NC.out (by simp))
 have n2_ := Aside0.mk (k1.blk BR.out NR.out (by simp))
 have n3_ := Aside0.mk (Own.keep HO.out k1 HGM.out)
 have n4_ := Aside0.mk (HXS.out _ _ HX.out (far_keep k1 HM.out))
 have n5_ := Aside0.mk (Nat.le_trans HM.out k1.1)
 clear HR
 clear BC
 clear BR
 clear HO
 clear HX
 clear HM
 have HR := n0_
 have BC := n1_
 have BR := n2_
 have HO := n3_
 have HX := n4_
 have HM := n5_
 clear n0_
 clear n1_
 clear n2_
 clear n3_
 clear n4_
 clear n5_
 have ST1 := Aside0.mk st
 have GD1 := Aside0.mk gd
 clear h1 k1 st gd
 refine hK.out _ _ ⟨(cell_mid HPL.out BC.out), (cell_one BR.out)⟩ (fun hHeld => ?_)
 clear hK K
 refine norm_ (a' := ?_) ?_ ?_
 rotate_left
 ·show Act.put _ (some 5) _ = _
  simp only [Act.put, List.setIfInBounds_toArray, List.set_cons_zero, List.set_cons_succ, i64_w, i32_w]
  rfl
 refine one_ (i := 5) (N := some 7) #[true, true, true, true, true, true, false, false, false, false, false] rfl rfl (by kernel_rfl) (by decide) (fun K hK => ?_)
 refine goes_ Try.func63 (by kernel_rfl) rfl #[.pointer (some ⟨g, 0, none⟩)] (by rfl) rfl rfl (by simp only [List.map_toArray, List.map_cons, List.map_nil]; rfl) ?_
 with_reducible refine (text_calls HR.out).mono ?_
 rintro e w2 ⟨x2, l2, s2, rfl, h1, k1, st, gd⟩
 refine ⟨_, rfl, ?_⟩
 have n0_ := Aside0.mk (h1)
 have n1_ := Aside0.mk (k1.blk BC.out NC.out (by simp))
 have n2_ := Aside0.mk (k1.blk BR.out NR.out (by simp))
 have n3_ := Aside0.mk (Own.keep HO.out k1 HGM.out)
 have n4_ := Aside0.mk (HXS.out _ _ HX.out (far_keep k1 HM.out))
 have n5_ := Aside0.mk (Nat.le_trans HM.out k1.1)
 clear HR
 clear BC
 clear BR
 clear HO
 clear HX
 clear HM
 have HR := n0_
 have BC := n1_
 have BR := n2_
 have HO := n3_
 have HX := n4_
 have HM := n5_
 clear n0_
 clear n1_
 clear n2_
 clear n3_
 clear n4_
 clear n5_
 have ST2 := Aside0.mk st
 have GD2 := Aside0.mk gd
 clear h1 k1 st gd
 refine hK.out _ _ ⟨(cell_mid HPL.out BC.out), (cell_one BR.out)⟩ (fun hHeld => ?_)
 clear hK K
 refine norm_ (a' := ?_) ?_ ?_
 rotate_left
 ·show Act.put _ (some 7) _ = _
  simp only [Act.put, List.setIfInBounds_toArray, List.set_cons_zero, List.set_cons_succ, i64_w, i32_w]
  rfl
 refine pure_ (i := 6) (N := some 8) (v := ?_) (a' := ?_) #[true, true, true, true, true, true, true, false, false, false, false] rfl rfl (by kernel_rfl) (fun _ _ _ h => h) (Or.inl ⟨by rfl, ?_⟩) ?_ ?_
 rotate_left
 ·intro w'
  go_simp
  with_reducible rfl
 rotate_left
 ·simp only [Act.put, List.setIfInBounds_toArray, List.set_cons_zero, List.set_cons_succ, i64_w, i32_w]
  rfl
 refine one_ (i := 7) (N := some 9) #[true, true, true, true, true, true, true, true, false, false, false] rfl rfl (by kernel_rfl) (by decide) (fun K hK => ?_)
 refine value_ (w1 := ?_) (v := ?_) (by rfl) rfl ?_ ?_
 rotate_left 2
 ·go_simp
  constructor
  ·rfl
  ·rfl
 refine hK.out _ _ ⟨(cell_mid HPL.out (blk_alloc BC.out _)), (cell_one (blk_alloc BR.out _))⟩ (fun hHeld => ?_)
 clear hK K
 refine norm_ (a' := ?_) ?_ ?_
 rotate_left
 ·show Act.put _ (some 9) _ = _
  simp only [Act.put, List.setIfInBounds_toArray, List.set_cons_zero, List.set_cons_succ, i64_w, i32_w]
  rfl
 refine one_ (i := 8) (N := some 10) #[true, true, true, true, true, true, true, true, true, false, false] rfl rfl (by kernel_rfl) (by decide) (fun K hK => ?_)
 refine Kd.R_append_step k65 (w0 := _) M (by rfl) (.tmp 3) (.tmp 9) 26 65 (.agg #[.string ⟨#[]⟩, .string ⟨#[]⟩]) 32 rfl Try.underlying26 info65 rfl (by decide) (by omega) v xs (⟨x1, x2⟩ : S65) [.string x1, .string x2] (fun k_ => M ≤ k_) (fun _ => False) rfl rfl (k65_mkM _ _ _ (⟨x1, x2⟩ : S65)) (fun _ h_ => h_.elim) ?aF HO.out (Below.refl M _) ?aS ?aL ?_
 case aF => exact fun k_ h_ => Nat.le_trans HM.out h_
 case aS => exact HM.out
 case aL => have := HXL.out; omega
 intro v1 w9 ho9 hb9 hg9 hat9
 obtain ⟨Av, cv, rfl⟩ := Kd.R_slice ho9
 have n0_ := Aside0.mk (HR.out.belowM hb9 HGM.out HWM.out)
 have n1_ := Aside0.mk ((hb9.block gc HCM.out).trans BC.out)
 have n2_ := Aside0.mk ((hb9.block gr HRM.out).trans BR.out)
 have n3_ := Aside0.mk (ho9)
 have n4_ := Aside0.mk (HXS.out _ _ HX.out (far_below hb9))
 have n5_ := Aside0.mk (Nat.le_trans HM.out hb9.size)
 clear HR
 clear BC
 clear BR
 clear HO
 clear HX
 clear HM
 have HR := n0_
 have BC := n1_
 have BR := n2_
 have HO := n3_
 have HX := n4_
 have HM := n5_
 clear n0_
 clear n1_
 clear n2_
 clear n3_
 clear n4_
 clear n5_
 clear ho9 hb9 hg9 hat9
 refine hK.out _ _ ⟨(cell_mid HPL.out BC.out), (cell_one BR.out)⟩ (fun hHeld => ?_)
 clear hK K
 refine norm_ (a' := ?_) ?_ ?_
 rotate_left
 ·show Act.put _ (some 10) _ = _
  simp only [Act.put, List.setIfInBounds_toArray, List.set_cons_zero, List.set_cons_succ, i64_w, i32_w]
  rfl
 refine pure_ (i := 9) (N := some 11) (v := ?_) (a' := ?_) #[true, true, true, true, true, true, true, true, true, true, false] rfl rfl (by kernel_rfl) (fun _ _ _ h => h) (Or.inl ⟨by rfl, ?_⟩) ?_ ?_
 rotate_left
 ·intro w'
  go_simp
  with_reducible rfl
 rotate_left
 ·simp only [Act.put, List.setIfInBounds_toArray, List.set_cons_zero, List.set_cons_succ, i64_w, i32_w]
  rfl
 refine last_ (i := 10) (N := none) #[true, true, true, true, true, true, true, true, true, true, true] rfl rfl (by kernel_rfl) (by decide) (fun K hK => ?_)
 refine store_blk_step (by rfl) (t := 26) (p := 11) (x := .tmp 10) rfl rfl (off := 12) (u := .slice Av (xs ++ [(⟨x1, x2⟩ : S65)]).length cv) (seg := [.slice Av (xs ++ [(⟨x1, x2⟩ : S65)]).length cv]) (pre ++ .slice Av (xs ++ [(⟨x1, x2⟩ : S65)]).length cv :: post) rfl rfl BC.out rfl (by kernel_rfl) (fit_mid pre post v _ HPL.out) (one_cell rfl) (put_mid pre post v _ HPL.out) ?_
 intro wS hS hgS
 have n0_ := Aside0.mk (HR.out.only hgS (Ne.symm NC.out) WC.out)
 have n1_ := Aside0.mk (hS)
 have n2_ := Aside0.mk (blk_only BR.out hgS NRC.out)
 have n3_ := Aside0.mk (Own.only HO.out hgS HCM.out)
 have n4_ := Aside0.mk (HXS.out _ _ HX.out (far_only hgS HM.out))
 have n5_ := Aside0.mk (Nat.le_trans HM.out hgS.size)
 clear HR
 clear BC
 clear BR
 clear HO
 clear HX
 clear HM
 have HR := n0_
 have BC := n1_
 have BR := n2_
 have HO := n3_
 have HX := n4_
 have HM := n5_
 clear n0_
 clear n1_
 clear n2_
 clear n3_
 clear n4_
 clear n5_
 clear hS hgS
 refine hK.out _ _ ?_
 clear hK K
 refine done_ (by kernel_rfl) ?_
 go_wp2
 first | go_end0 | ((try simp only [Exit.inBlock, Exit.then]); refine bodyPost_ret (results_none rfl _ _ _) rfl ?_)
 exact ⟨(⟨x1, x2⟩ : S65), l2, s2, rfl, ⟨⟨_, BC.out, HO.out⟩, BR.out, ⟨HGM.out, HCM.out, HRM.out, NC.out, NR.out, NRC.out, HWM.out, WC.out, HM.out⟩, HX.out⟩, HR.out, ST1.out.bind (ST2.out.bind (Step.pure _ _ _))⟩
set_option maxHeartbeats 4000000 in
set_option maxRecDepth 100000 in
theorem write_one {W0 w : World} {M g gc gr : Nat} {X : World → Prop} {pre post : List Value} {l : List Int} {s : Bool} {xs : List _} (hX : ∀ w w', X w → Far M g gc w w' → X w') (hpl : pre.length = 13) (hI : Cap k67 67 29 pre post W0 M g gc gr X w xs) (h : RD 101 W0 w g l s) (hxl : xs.length < 65536) :
  Calls Try.prog 64 #[.pointer (some ⟨gc, 0, none⟩), .pointer (some ⟨gr, 0, none⟩)] w (One W0 g pWrite ((Cap k67 67 29 pre post W0 M g gc gr X)) xs l s) := by
 obtain ⟨⟨v, hc, ho⟩, hr, ⟨a1, a2, a3, a4, a5, a6, a7, a8, a9⟩, hx⟩ := hI
 have HR := Aside0.mk h
 have BC := Aside0.mk hc
 have BR := Aside0.mk hr
 have HO := Aside0.mk ho
 have HX := Aside0.mk hx
 have HXS := Aside0.mk hX
 have HPL := Aside0.mk hpl
 have HXL := Aside0.mk hxl
 have HGM := Aside0.mk a1
 have HCM := Aside0.mk a2
 have HRM := Aside0.mk a3
 have NC := Aside0.mk a4
 have NR := Aside0.mk a5
 have NRC := Aside0.mk a6
 have HWM := Aside0.mk a7
 have WC := Aside0.mk a8
 have HM := Aside0.mk a9
 clear h hc hr ho hx hX hpl hxl a1 a2 a3 a4 a5 a6 a7 a8 a9
 go_enter Try.func64, Try.ntmps64
 go_wp2
 have n0_ := Aside0.mk (HR.out.drew)
 have n1_ := Aside0.mk (blk_drew BC.out)
 have n2_ := Aside0.mk (blk_drew BR.out)
 have n3_ := Aside0.mk (Own.drew HO.out)
 have n4_ := Aside0.mk (HXS.out _ _ HX.out (fun _ _ _ _ => rfl))
 have n5_ := Aside0.mk (HM.out)
 clear HR
 clear BC
 clear BR
 clear HO
 clear HX
 clear HM
 have HR := n0_
 have BC := n1_
 have BR := n2_
 have HO := n3_
 have HX := n4_
 have HM := n5_
 clear n0_
 clear n1_
 clear n2_
 clear n3_
 clear n4_
 clear n5_
 refine start_ (n := 13) (S := fun w' => w'.cell? ⟨gc, 13, none⟩ = some v ∧ w'.cell? ⟨gr, 0, none⟩ = some (.pointer (some ⟨g, 0, none⟩))) (ds := [12]) #[false, false, false, false, false, false, false, false, false, false, false, false, false] (by kernel_rfl) rfl rfl ⟨(cell_mid HPL.out BC.out), (cell_one BR.out)⟩ (fun hHeld => ?_)
 refine pure_ (i := 0) (N := some 2) (v := ?_) (a' := ?_) #[true, false, false, false, false, false, false, false, false, false, false, false, false] rfl rfl (by kernel_rfl) (fun _ _ _ h => h) (Or.inl ⟨by rfl, ?_⟩) ?_ ?_
 rotate_left
 ·intro w'
  go_simp
  with_reducible rfl
 rotate_left
 ·simp only [Act.put, List.setIfInBounds_toArray, List.set_cons_zero, List.set_cons_succ, i64_w, i32_w]
  rfl
 refine take_ (i := 1) (N := some 3) (v := ?_) (a' := ?_) #[true, true, false, false, false, false, false, false, false, false, false, false, false] rfl rfl (by kernel_rfl) (fun _ _ _ h => h) (Or.inl ⟨by rfl, ?_⟩) hHeld ?_ ?_
 rotate_left
 ·rintro w' ⟨s0, s1⟩
  go_simp
  with_reducible rfl
 rotate_left
 ·simp only [Act.put, List.setIfInBounds_toArray, List.set_cons_zero, List.set_cons_succ, i64_w, i32_w]
  rfl
 refine take_ (i := 2) (N := some 4) (v := ?_) (a' := ?_) #[true, true, true, false, false, false, false, false, false, false, false, false, false] rfl rfl (by kernel_rfl) (fun _ _ _ h => h) (Or.inl ⟨by rfl, ?_⟩) hHeld ?_ ?_
 rotate_left
 ·rintro w' ⟨s0, s1⟩
  go_simp
  with_reducible rfl
 rotate_left
 ·simp only [Act.put, List.setIfInBounds_toArray, List.set_cons_zero, List.set_cons_succ, i64_w, i32_w]
  rfl
 refine take_ (i := 4) (N := some 6) (v := ?_) (a' := ?_) #[true, true, true, false, true, false, false, false, false, false, false, false, false] rfl rfl (by kernel_rfl) (fun _ _ _ h => h) (Or.inl ⟨by rfl, ?_⟩) hHeld ?_ ?_
 rotate_left
 ·rintro w' ⟨s0, s1⟩
  go_simp
  with_reducible rfl
 rotate_left
 ·simp only [Act.put, List.setIfInBounds_toArray, List.set_cons_zero, List.set_cons_succ, i64_w, i32_w]
  rfl
 refine take_ (i := 6) (N := some 8) (v := ?_) (a' := ?_) #[true, true, true, false, true, false, true, false, false, false, false, false, false] rfl rfl (by kernel_rfl) (fun _ _ _ h => h) (Or.inl ⟨by rfl, ?_⟩) hHeld ?_ ?_
 rotate_left
 ·rintro w' ⟨s0, s1⟩
  go_simp
  with_reducible rfl
 rotate_left
 ·simp only [Act.put, List.setIfInBounds_toArray, List.set_cons_zero, List.set_cons_succ, i64_w, i32_w]
  rfl
 refine one_ (i := 3) (N := some 5) #[true, true, true, true, true, false, true, false, false, false, false, false, false] rfl rfl (by kernel_rfl) (by decide) (fun K hK => ?_)
 refine goes_ Try.func63 (by kernel_rfl) rfl #[.pointer (some ⟨g, 0, none⟩)] (by rfl) rfl rfl (by simp only [List.map_toArray, List.map_cons, List.map_nil]; rfl) ?_
 with_reducible refine (text_calls HR.out).mono ?_
 rintro e w1 ⟨x1, l1, s1, rfl, h1, k1, st, gd⟩
 refine ⟨_, rfl, ?_⟩
 have n0_ := Aside0.mk (h1)
 have n1_ := Aside0.mk (k1.blk BC.out NC.out (by simp))
 have n2_ := Aside0.mk (k1.blk BR.out NR.out (by simp))
 have n3_ := Aside0.mk (Own.keep HO.out k1 HGM.out)
 have n4_ := Aside0.mk (HXS.out _ _ HX.out (far_keep k1 HM.out))
 have n5_ := Aside0.mk (Nat.le_trans HM.out k1.1)
 clear HR
 clear BC
 clear BR
 clear HO
 clear HX
 clear HM
 have HR := n0_
 have BC := n1_
 have BR := n2_
 have HO := n3_
 have HX := n4_
 have HM := n5_
 clear n0_
 clear n1_
 clear n2_
 clear n3_
 clear n4_
 clear n5_
 have ST1 := Aside0.mk st
 have GD1 := Aside0.mk gd
 clear h1 k1 st gd
 refine hK.out _ _ ⟨(cell_mid HPL.out BC.out), (cell_one BR.out)⟩ (fun hHeld => ?_)
 clear hK K
 refine norm_ (a' := ?_) ?_ ?_
 rotate_left
 ·show Act.put _ (some 5) _ = _
  simp only [Act.put, List.setIfInBounds_toArray, List.set_cons_zero, List.set_cons_succ, i64_w, i32_w]
  rfl
 refine one_ (i := 5) (N := some 7) #[true, true, true, true, true, true, true, false, false, false, false, false, false] rfl rfl (by kernel_rfl) (by decide) (fun K hK => ?_)
 refine goes_ Try.func60 (by kernel_rfl) rfl #[.pointer (some ⟨g, 0, none⟩)] (by rfl) rfl rfl (by simp only [List.map_toArray, List.map_cons, List.map_nil]; rfl) ?_
 with_reducible refine (flag_calls HR.out).mono ?_
 rintro e w2 ⟨x2, l2, s2, rfl, h1, k1, st, gd⟩
 refine ⟨_, rfl, ?_⟩
 have n0_ := Aside0.mk (h1)
 have n1_ := Aside0.mk (k1.blk BC.out NC.out (by simp))
 have n2_ := Aside0.mk (k1.blk BR.out NR.out (by simp))
 have n3_ := Aside0.mk (Own.keep HO.out k1 HGM.out)
 have n4_ := Aside0.mk (HXS.out _ _ HX.out (far_keep k1 HM.out))
 have n5_ := Aside0.mk (Nat.le_trans HM.out k1.1)
 clear HR
 clear BC
 clear BR
 clear HO
 clear HX
 clear HM
 have HR := n0_
 have BC := n1_
 have BR := n2_
 have HO := n3_
 have HX := n4_
 have HM := n5_
 clear n0_
 clear n1_
 clear n2_
 clear n3_
 clear n4_
 clear n5_
 have ST2 := Aside0.mk st
 have GD2 := Aside0.mk gd
 clear h1 k1 st gd
 refine hK.out _ _ ⟨(cell_mid HPL.out BC.out), (cell_one BR.out)⟩ (fun hHeld => ?_)
 clear hK K
 refine norm_ (a' := ?_) ?_ ?_
 rotate_left
 ·show Act.put _ (some 7) _ = _
  simp only [Act.put, List.setIfInBounds_toArray, List.set_cons_zero, List.set_cons_succ, i64_w, i32_w]
  rfl
 refine one_ (i := 7) (N := some 9) #[true, true, true, true, true, true, true, true, false, false, false, false, false] rfl rfl (by kernel_rfl) (by decide) (fun K hK => ?_)
 refine goes_ Try.func63 (by kernel_rfl) rfl #[.pointer (some ⟨g, 0, none⟩)] (by rfl) rfl rfl (by simp only [List.map_toArray, List.map_cons, List.map_nil]; rfl) ?_
 with_reducible refine (text_calls HR.out).mono ?_
 rintro e w3 ⟨x3, l3, s3, rfl, h1, k1, st, gd⟩
 refine ⟨_, rfl, ?_⟩
 have n0_ := Aside0.mk (h1)
 have n1_ := Aside0.mk (k1.blk BC.out NC.out (by simp))
 have n2_ := Aside0.mk (k1.blk BR.out NR.out (by simp))
 have n3_ := Aside0.mk (Own.keep HO.out k1 HGM.out)
 have n4_ := Aside0.mk (HXS.out _ _ HX.out (far_keep k1 HM.out))
 have n5_ := Aside0.mk (Nat.le_trans HM.out k1.1)
 clear HR
 clear BC
 clear BR
 clear HO
 clear HX
 clear HM
 have HR := n0_
 have BC := n1_
 have BR := n2_
 have HO := n3_
 have HX := n4_
 have HM := n5_
 clear n0_
 clear n1_
 clear n2_
 clear n3_
 clear n4_
 clear n5_
 have ST3 := Aside0.mk st
 have GD3 := Aside0.mk gd
 clear h1 k1 st gd
 refine hK.out _ _ ⟨(cell_mid HPL.out BC.out), (cell_one BR.out)⟩ (fun hHeld => ?_)
 clear hK K
 refine norm_ (a' := ?_) ?_ ?_
 rotate_left
 ·show Act.put _ (some 9) _ = _
  simp only [Act.put, List.setIfInBounds_toArray, List.set_cons_zero, List.set_cons_succ, i64_w, i32_w]
  rfl
 refine pure_ (i := 8) (N := some 10) (v := ?_) (a' := ?_) #[true, true, true, true, true, true, true, true, true, false, false, false, false] rfl rfl (by kernel_rfl) (fun _ _ _ h => h) (Or.inl ⟨by rfl, ?_⟩) ?_ ?_
 rotate_left
 ·intro w'
  go_simp
  with_reducible rfl
 rotate_left
 ·simp only [Act.put, List.setIfInBounds_toArray, List.set_cons_zero, List.set_cons_succ, i64_w, i32_w]
  rfl
 refine one_ (i := 9) (N := some 11) #[true, true, true, true, true, true, true, true, true, true, false, false, false] rfl rfl (by kernel_rfl) (by decide) (fun K hK => ?_)
 refine value_ (w1 := ?_) (v := ?_) (by rfl) rfl ?_ ?_
 rotate_left 2
 ·go_simp
  constructor
  ·rfl
  ·rfl
 refine hK.out _ _ ⟨(cell_mid HPL.out (blk_alloc BC.out _)), (cell_one (blk_alloc BR.out _))⟩ (fun hHeld => ?_)
 clear hK K
 refine norm_ (a' := ?_) ?_ ?_
 rotate_left
 ·show Act.put _ (some 11) _ = _
  simp only [Act.put, List.setIfInBounds_toArray, List.set_cons_zero, List.set_cons_succ, i64_w, i32_w]
  rfl
 refine one_ (i := 10) (N := some 12) #[true, true, true, true, true, true, true, true, true, true, true, false, false] rfl rfl (by kernel_rfl) (by decide) (fun K hK => ?_)
 refine Kd.R_append_step k67 (w0 := _) M (by rfl) (.tmp 3) (.tmp 11) 27 67 (.agg #[.string ⟨#[]⟩, .bool false, .string ⟨#[]⟩]) 40 rfl Try.underlying27 info67 rfl (by decide) (by omega) v xs (⟨x1, x2, x3⟩ : S67) [.string x1, .bool x2, .string x3] (fun k_ => M ≤ k_) (fun _ => False) rfl rfl (k67_mkM _ _ _ (⟨x1, x2, x3⟩ : S67)) (fun _ h_ => h_.elim) ?aF HO.out (Below.refl M _) ?aS ?aL ?_
 case aF => exact fun k_ h_ => Nat.le_trans HM.out h_
 case aS => exact HM.out
 case aL => have := HXL.out; omega
 intro v1 w9 ho9 hb9 hg9 hat9
 obtain ⟨Av, cv, rfl⟩ := Kd.R_slice ho9
 have n0_ := Aside0.mk (HR.out.belowM hb9 HGM.out HWM.out)
 have n1_ := Aside0.mk ((hb9.block gc HCM.out).trans BC.out)
 have n2_ := Aside0.mk ((hb9.block gr HRM.out).trans BR.out)
 have n3_ := Aside0.mk (ho9)
 have n4_ := Aside0.mk (HXS.out _ _ HX.out (far_below hb9))
 have n5_ := Aside0.mk (Nat.le_trans HM.out hb9.size)
 clear HR
 clear BC
 clear BR
 clear HO
 clear HX
 clear HM
 have HR := n0_
 have BC := n1_
 have BR := n2_
 have HO := n3_
 have HX := n4_
 have HM := n5_
 clear n0_
 clear n1_
 clear n2_
 clear n3_
 clear n4_
 clear n5_
 clear ho9 hb9 hg9 hat9
 refine hK.out _ _ ⟨(cell_mid HPL.out BC.out), (cell_one BR.out)⟩ (fun hHeld => ?_)
 clear hK K
 refine norm_ (a' := ?_) ?_ ?_
 rotate_left
 ·show Act.put _ (some 12) _ = _
  simp only [Act.put, List.setIfInBounds_toArray, List.set_cons_zero, List.set_cons_succ, i64_w, i32_w]
  rfl
 refine pure_ (i := 11) (N := some 13) (v := ?_) (a' := ?_) #[true, true, true, true, true, true, true, true, true, true, true, true, false] rfl rfl (by kernel_rfl) (fun _ _ _ h => h) (Or.inl ⟨by rfl, ?_⟩) ?_ ?_
 rotate_left
 ·intro w'
  go_simp
  with_reducible rfl
 rotate_left
 ·simp only [Act.put, List.setIfInBounds_toArray, List.set_cons_zero, List.set_cons_succ, i64_w, i32_w]
  rfl
 refine last_ (i := 12) (N := none) #[true, true, true, true, true, true, true, true, true, true, true, true, true] rfl rfl (by kernel_rfl) (by decide) (fun K hK => ?_)
 refine store_blk_step (by rfl) (t := 27) (p := 13) (x := .tmp 12) rfl rfl (off := 13) (u := .slice Av (xs ++ [(⟨x1, x2, x3⟩ : S67)]).length cv) (seg := [.slice Av (xs ++ [(⟨x1, x2, x3⟩ : S67)]).length cv]) (pre ++ .slice Av (xs ++ [(⟨x1, x2, x3⟩ : S67)]).length cv :: post) rfl rfl BC.out rfl (by kernel_rfl) (fit_mid pre post v _ HPL.out) (one_cell rfl) (put_mid pre post v _ HPL.out) ?_
 intro wS hS hgS
 have n0_ := Aside0.mk (HR.out.only hgS (Ne.symm NC.out) WC.out)
 have n1_ := Aside0.mk (hS)
 have n2_ := Aside0.mk (blk_only BR.out hgS NRC.out)
 have n3_ := Aside0.mk (Own.only HO.out hgS HCM.out)
 have n4_ := Aside0.mk (HXS.out _ _ HX.out (far_only hgS HM.out))
 have n5_ := Aside0.mk (Nat.le_trans HM.out hgS.size)
 clear HR
 clear BC
 clear BR
 clear HO
 clear HX
 clear HM
 have HR := n0_
 have BC := n1_
 have BR := n2_
 have HO := n3_
 have HX := n4_
 have HM := n5_
 clear n0_
 clear n1_
 clear n2_
 clear n3_
 clear n4_
 clear n5_
 clear hS hgS
 refine hK.out _ _ ?_
 clear hK K
 refine done_ (by kernel_rfl) ?_
 go_wp2
 first | go_end0 | ((try simp only [Exit.inBlock, Exit.then]); refine bodyPost_ret (results_none rfl _ _ _) rfl ?_)
 exact ⟨(⟨x1, x2, x3⟩ : S67), l3, s3, rfl, ⟨⟨_, BC.out, HO.out⟩, BR.out, ⟨HGM.out, HCM.out, HRM.out, NC.out, NR.out, NRC.out, HWM.out, WC.out, HM.out⟩, HX.out⟩, HR.out, ST1.out.bind (ST2.out.bind (ST3.out.bind (Step.pure _ _ _)))⟩
end Go.Proofs.Ytjfgapaohldbkaa.WireRd


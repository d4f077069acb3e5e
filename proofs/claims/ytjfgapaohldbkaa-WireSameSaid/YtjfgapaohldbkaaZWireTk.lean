/- What TakeCmd of package wire comes to: of any bytes, the command that they say or none. Conditions: what each states. -/
import Derived.Test.YtjfgapaohldbkaaZWireCl
namespace Go.Proofs.Ytjfgapaohldbkaa.WireRd
open Go.RowKit Go.Proofs.Ytjfgapaohldbkaa.QA Go.Proofs.YtjfgapaohldbkaaW.PrintWords Go.Proofs.YtjfgapaohldbkaaW.PrintLast Go.Proofs.YtjfgapaohldbkaaW.PrintMore Go.Proofs.Ytjfgapaohldbkaa.Facts Go.Proofs.Ytjfgapaohldbkaa.Codec Go.Proofs.Ytjfgapaohldbkaa.WireC Go.Proofs.Ytjfgapaohldbkaa.WireBlk Go.Proofs.Ytjfgapaohldbkaa.WireSpec Go.Proofs.Ytjfgapaohldbkaa.QAPutSpec
attribute [local go_sem] max2_int min2_int max_two min_two max_three min_three max_four min_four
set_option linter.unusedVariables false
set_option linter.unusedSimpArgs false
structure Sig22 where
 x1 : Int
 x2 : Int
 x3 : Int
 x4 : Int
 x5 : S23
 x6 : S25
 x7 : Int
 x8 : Bool
 l : List Int
 s : Bool
 gc : Nat
def pre22 (c : CmdV) : List Value := [.int .i64 c.kind, .int .i64 c.epoch, .int .i64 c.node, .int .i64 c.home, .int .i64 c.by_.f0, .int .i64 c.by_.f1, .int .i64 c.by_.f2, .int .i64 c.by_.f3, .int .i64 c.at_.f0, .int .i64 c.at_.f1, .int .i64 c.wall, .bool c.yes]
def cmdAgg (c : CmdV) (v1 v2 : Value) : Value := .agg #[.int .i64 c.kind, .int .i64 c.epoch, .int .i64 c.node, .int .i64 c.home, .int .i64 c.by_.f0, .int .i64 c.by_.f1, .int .i64 c.by_.f2, .int .i64 c.by_.f3, .int .i64 c.at_.f0, .int .i64 c.at_.f1, .int .i64 c.wall, .bool c.yes, v1, v2]
def TakenCmd (w : World) (l : List Int) (e : Ending) (w' : World) : Prop := ∃ (c : CmdV) (v1 v2 : Value) (er : Int), e = .returned (.tuple #[cmdAgg c v1 v2, .int .i64 er]) ∧ Kd.R k65 65 w' w.heap.size (fun _ => True) v1 c.spans ∧ Kd.R k67 67 w' w.heap.size (fun _ => True) v2 c.writes ∧ Below w.heap.size w w' ∧ (er = 0 ∧ pCmd l = some ((1, c), []) ∨ er = 9 ∧ c = zCmd ∧ ∀ c', pCmd l ≠ some ((1, c'), []))
def X1 (g2 : Nat) (w : World) : Prop := w.heap[g2]? = some (.cells #[.int .i64 0, .int .i64 0, .int .i64 0, .int .i64 0, .int .i64 0, .int .i64 0, .int .i64 0, .int .i64 0, .int .i64 0, .int .i64 0, .int .i64 0, .bool false, .slice none 0 0, .slice none 0 0] 29 (0, 0))
theorem X1.far {g2 M g gc : Nat} (h1 : g2 < M) (h2 : g2 ≠ g) (h3 : g2 ≠ gc) (w w' : World) (h : X1 g2 w) (k : Far M g gc w w') : X1 g2 w' := (k g2 h1 h2 h3).trans h
def Old {α : Type} (d : Kd α) (e : Nat) (w : World) (M M2 : Nat) (v : Value) (xs : List α) : Prop := Kd.R d e w M (fun k => M ≤ k ∧ k < M2) v xs
theorem Own.old {α : Type} {d : Kd α} {e M : Nat} {w : World} {v : Value} {xs : List α} (h : Own d e w M v xs) : Old d e w M w.heap.size v xs := Kd.R_mono (Kd.R_bound h) (fun k h => ⟨h.2.1, h.2.2.1⟩)
theorem Old.far {α : Type} {d : Kd α} {e M M2 g gc : Nat} {w w' : World} {v : Value} {xs : List α} (h : Old d e w M M2 v xs) (hg : g < M) (hc : gc < M) (k : Far M2 g gc w w') : Old d e w' M M2 v xs := Kd.R_move h (fun i hi => k i hi.2 (Nat.ne_of_gt (Nat.lt_of_lt_of_le hg hi.1)) (Nat.ne_of_gt (Nat.lt_of_lt_of_le hc hi.1)))
def X2 (g2 M M2 : Nat) (v : Value) (xs : List S65) (w : World) : Prop := X1 g2 w ∧ Old k65 65 w M M2 v xs
theorem X2.far {g2 M M2 g gc : Nat} {v : Value} {xs : List S65} (h1 : g2 < M2) (h2 : g2 ≠ g) (h3 : g2 ≠ gc) (hg : g < M) (hc : gc < M) (w w' : World) (h : X2 g2 M M2 v xs w) (k : Far M2 g gc w w') : X2 g2 M M2 v xs w' := ⟨X1.far h1 h2 h3 w w' h.1 k, h.2.far hg hc k⟩
theorem not_told {α : Type} {p : Pr α} {l l1 : List Int} {s1 : Bool} {v : α} (h : Step p l false v l1 s1) (hb : s1 = true ∨ l1 ≠ []) (u : α) : p l ≠ some (u, []) := by
 intro e
 rcases h.2 rfl with ⟨_, e2⟩ | ⟨e1, e2⟩
 ·rw [e2] at e; cases e
 ·rw [e2] at e
  injection e with e
  injection e with _ e
  rcases hb with hb | hb
  ·rw [e1] at hb; cases hb
  ·exact hb e
theorem not_form {α : Type} {p : Pr (Int × α)} {l l1 : List Int} {s1 : Bool} {x : Int} {v : α} (h : Step p l false (x, v) l1 s1) (hx : x ≠ 1) (u : α) : p l ≠ some ((1, u), []) := by
 intro e
 rcases h.2 rfl with ⟨_, e2⟩ | ⟨_, e2⟩
 ·rw [e2] at e; cases e
 ·rw [e2] at e
  injection e with e
  injection e with e _
  injection e with e _
  exact hx e
theorem cap_start {α : Type} {d : Kd α} {e T : Nat} {pre post : List Value} {W0 : World} {M g gc gr : Nat} {X : World → Prop} {w : World} (hM : M = w.heap.size) (hc : w.heap[gc]? = some (.cells (pre ++ .slice none 0 0 :: post).toArray T (0, 0))) (hr : w.heap[gr]? = some (.cells #[.pointer (some ⟨g, 0, none⟩)] 99 (0, 0))) (hg : g < w.heap.size) (h1 : gc ≠ g) (h2 : gr ≠ g) (h3 : gr ≠ gc) (h4 : W0.heap.size ≤ gc) (hX : X w) : Cap d e T pre post W0 M g gc gr X w [] := by
 subst hM
 exact ⟨⟨_, hc, Own.nil _ _ _ _⟩, hr, ⟨hg, blk_lt hc, blk_lt hr, h1, h2, h3, Nat.le_trans h4 (Nat.le_of_lt (blk_lt hc)), h4, Nat.le_refl _⟩, hX⟩
set_option maxHeartbeats 4000000 in
set_option maxRecDepth 100000 in
theorem takeCmd_calls {A0 : Option Addr} {c0 : Nat} {l0 : List Int} {w : World} (hC : Kd.C (Kd.int .u8) w A0 l0.length l0) (hc : l0.length ≤ c0) (hb : Bytes l0) (hl : l0.length < 140737488355328) :
  Calls Try.prog 22 #[.slice A0 l0.length c0] w (TakenCmd w l0) := by
 have HC := Aside0.mk hC
 have HL := Aside0.mk (And.intro hc (And.intro hb hl))
 clear hC hc hb hl
 go_enter Try.func22, Try.ntmps22
 go_upto_region 3 with (first | ((with_reducible refine gate_dst (N := 2) rfl ?_); refine box_event ?hg (N := 2) ?hd (cs := #[.int .i64 0, .int .i64 0, .int .i64 0, .int .i64 0, .int .i64 0, .int .i64 0, .int .i64 0, .int .i64 0, .int .i64 0, .int .i64 0, .int .i64 0, .bool false, .slice none 0 0, .slice none 0 0]) (t := 29) ?hr ?_; (case hd => rfl); (case hg => rfl); (case hr => first | (go_simp; done) | (go_simp; rfl)); intro g2 hg wb hbox hb; have B2 := Aside0.mk hbox; have HB := Aside0.mk hb; have G2 := Aside0.mk (Nat.le_of_eq hg.symm); clear hg hbox hb) | ((with_reducible refine gate_dst (N := 9) rfl ?_); refine box_event ?hg (N := 9) ?hd (cs := #[.slice A0 l0.length c0, .bool false]) (t := 101) ?hr ?_; (case hd => rfl); (case hg => rfl); (case hr => first | (go_simp; done) | (go_simp; rfl)); intro g hg wb hbox hb; have HR := Aside0.mk (show RD 101 w wb g l0 false from ⟨A0, c0, hbox, HL.out.1, HC.out, by rw [hg]; exact HB.out.size, below_step HB.out hb, HL.out.2⟩); have N2 := Aside0.mk (show g2 ≠ g from by rw [hg]; exact Nat.ne_of_lt (blk_lt B2.out)); have B2n := Aside0.mk (blk_below B2.out hb); clear B2; have B2 := B2n; clear B2n hg hbox hb HB) | ((with_reducible refine gate_dst (N := 4) rfl ?_); refine box_event ?hg (N := 4) ?hd (cs := #[.pointer none]) (t := 99) ?hr ?_; (case hd => rfl); (case hg => rfl); (case hr => first | (go_simp; done) | (go_simp; rfl)); intro gr hg wb hbox hb; have NR := Aside0.mk (show gr ≠ g from by rw [hg]; exact Nat.ne_of_gt HR.out.lt); have N2R := Aside0.mk (show g2 ≠ gr from by rw [hg]; exact Nat.ne_of_lt (blk_lt B2.out)); have WR := Aside0.mk (show w.heap.size ≤ gr from by rw [hg]; exact HR.out.belowW.size); have n0_ := Aside0.mk (HR.out.below hb); have n1_ := Aside0.mk (blk_below B2.out hb); clear HR; clear B2; have HR := n0_; have B2 := n1_; clear n0_; clear n1_; have BR := Aside0.mk hbox; clear hg hbox hb) | ((with_reducible refine gate_store (t := 99) (p := 4) rfl ?_); refine store_blk ?hgd (t := 99) (p := 4) (x := .tmp 9) ?ho ?hN (off := 0) (u := .pointer (some ⟨g, 0, none⟩)) (seg := ?_) [.pointer (some ⟨g, 0, none⟩)] ?hp ?hx BR.out ?hu ?ht ?hfit ?h1 ?hnew ?_; (case hgd => rfl); (case ho => rfl); (case hN => rfl); (case hp => rfl); (case hx => rfl); (case hu => rfl); (case ht => kernel_rfl); (case hfit => exact Nat.le_of_ble_eq_true rfl); (case h1 => exact (List.forall_mem_cons.2 ⟨rfl, (fun _ h => by cases h)⟩)); (case hnew => rfl); intro wS hS hgS; have n0_ := Aside0.mk (HR.out.only hgS (Ne.symm NR.out) WR.out); have n1_ := Aside0.mk (blk_only B2.out hgS N2R.out); have n2_ := Aside0.mk (hS); clear HR; clear B2; clear BR; have HR := n0_; have B2 := n1_; have BR := n2_; clear n0_; clear n1_; clear n2_; clear hS hgS; have hcr := cell_one BR.out) | ((with_reducible refine gate_callee (f := 55) rfl ?_); refine goesL_ (some 11) rfl rfl Try.func55 (by kernel_rfl) rfl #[.pointer (some ⟨g, 0, none⟩)] rfl (by (try simp only [List.map_toArray, List.map_cons, List.map_nil]); first | done | rfl) ?_; (with_reducible refine (byte_calls HR.out).mono ?_); rintro e w9 ⟨x9, l9, s9, rfl, h1, k1, st, gd⟩; refine ⟨_, rfl, ?_⟩; have n0_ := Aside0.mk (h1); have n1_ := Aside0.mk (k1.blk B2.out N2.out (by simp)); have n2_ := Aside0.mk (k1.blk BR.out NR.out (by simp)); clear HR; clear B2; clear BR; have HR := n0_; have B2 := n1_; have BR := n2_; clear n0_; clear n1_; clear n2_; have ST9 := Aside0.mk st; have GD9 := Aside0.mk gd; clear h1 k1 st gd))
 have n0_ := Aside0.mk (HR.out.drew)
 have n1_ := Aside0.mk (blk_drew B2.out)
 have n2_ := Aside0.mk (blk_drew BR.out)
 clear HR
 clear B2
 clear BR
 have HR := n0_
 have B2 := n1_
 have BR := n2_
 clear n0_
 clear n1_
 clear n2_
 refine start_ (n := 19) (S := fun w' => w'.cell? ⟨gr, 0, none⟩ = some (.pointer (some ⟨g, 0, none⟩))) (ds := []) #[false, false, false, false, false, false, false, false, false, false, false, false, false, false, false, false, false, false, false] (by kernel_rfl) rfl rfl ((cell_one BR.out)) (fun hHeld => ?_)
 refine take_ (i := 0) (N := some 12) (v := ?_) (a' := ?_) #[true, false, false, false, false, false, false, false, false, false, false, false, false, false, false, false, false, false, false] rfl rfl (by kernel_rfl) (fun _ _ _ h => h) (Or.inl ⟨by rfl, ?_⟩) hHeld ?_ ?_
 rotate_left
 ·intro w' s0
  go_simp
  with_reducible rfl
 rotate_left
 ·simp only [Act.put, List.setIfInBounds_toArray, List.set_cons_zero, List.set_cons_succ, i64_w, i32_w]
  rfl
 refine take_ (i := 2) (N := some 14) (v := ?_) (a' := ?_) #[true, false, true, false, false, false, false, false, false, false, false, false, false, false, false, false, false, false, false] rfl rfl (by kernel_rfl) (fun _ _ _ h => h) (Or.inl ⟨by rfl, ?_⟩) hHeld ?_ ?_
 rotate_left
 ·intro w' s0
  go_simp
  with_reducible rfl
 rotate_left
 ·simp only [Act.put, List.setIfInBounds_toArray, List.set_cons_zero, List.set_cons_succ, i64_w, i32_w]
  rfl
 refine take_ (i := 4) (N := some 16) (v := ?_) (a' := ?_) #[true, false, true, false, true, false, false, false, false, false, false, false, false, false, false, false, false, false, false] rfl rfl (by kernel_rfl) (fun _ _ _ h => h) (Or.inl ⟨by rfl, ?_⟩) hHeld ?_ ?_
 rotate_left
 ·intro w' s0
  go_simp
  with_reducible rfl
 rotate_left
 ·simp only [Act.put, List.setIfInBounds_toArray, List.set_cons_zero, List.set_cons_succ, i64_w, i32_w]
  rfl
 refine take_ (i := 6) (N := some 18) (v := ?_) (a' := ?_) #[true, false, true, false, true, false, true, false, false, false, false, false, false, false, false, false, false, false, false] rfl rfl (by kernel_rfl) (fun _ _ _ h => h) (Or.inl ⟨by rfl, ?_⟩) hHeld ?_ ?_
 rotate_left
 ·intro w' s0
  go_simp
  with_reducible rfl
 rotate_left
 ·simp only [Act.put, List.setIfInBounds_toArray, List.set_cons_zero, List.set_cons_succ, i64_w, i32_w]
  rfl
 refine take_ (i := 8) (N := some 20) (v := ?_) (a' := ?_) #[true, false, true, false, true, false, true, false, true, false, false, false, false, false, false, false, false, false, false] rfl rfl (by kernel_rfl) (fun _ _ _ h => h) (Or.inl ⟨by rfl, ?_⟩) hHeld ?_ ?_
 rotate_left
 ·intro w' s0
  go_simp
  with_reducible rfl
 rotate_left
 ·simp only [Act.put, List.setIfInBounds_toArray, List.set_cons_zero, List.set_cons_succ, i64_w, i32_w]
  rfl
 refine take_ (i := 10) (N := some 22) (v := ?_) (a' := ?_) #[true, false, true, false, true, false, true, false, true, false, true, false, false, false, false, false, false, false, false] rfl rfl (by kernel_rfl) (fun _ _ _ h => h) (Or.inl ⟨by rfl, ?_⟩) hHeld ?_ ?_
 rotate_left
 ·intro w' s0
  go_simp
  with_reducible rfl
 rotate_left
 ·simp only [Act.put, List.setIfInBounds_toArray, List.set_cons_zero, List.set_cons_succ, i64_w, i32_w]
  rfl
 refine take_ (i := 12) (N := some 24) (v := ?_) (a' := ?_) #[true, false, true, false, true, false, true, false, true, false, true, false, true, false, false, false, false, false, false] rfl rfl (by kernel_rfl) (fun _ _ _ h => h) (Or.inl ⟨by rfl, ?_⟩) hHeld ?_ ?_
 rotate_left
 ·intro w' s0
  go_simp
  with_reducible rfl
 rotate_left
 ·simp only [Act.put, List.setIfInBounds_toArray, List.set_cons_zero, List.set_cons_succ, i64_w, i32_w]
  rfl
 refine take_ (i := 14) (N := some 26) (v := ?_) (a' := ?_) #[true, false, true, false, true, false, true, false, true, false, true, false, true, false, true, false, false, false, false] rfl rfl (by kernel_rfl) (fun _ _ _ h => h) (Or.inl ⟨by rfl, ?_⟩) hHeld ?_ ?_
 rotate_left
 ·intro w' s0
  go_simp
  with_reducible rfl
 rotate_left
 ·simp only [Act.put, List.setIfInBounds_toArray, List.set_cons_zero, List.set_cons_succ, i64_w, i32_w]
  rfl
 refine join_ (σ := Sig22) 1 #[true, true, true, true, true, true, true, true, true, true, true, true, true, true, true, true, true, true, false] (fun s_ => [(13, .int .i64 s_.x1), (15, .int .i64 s_.x2), (17, .int .i64 s_.x3), (19, .int .i64 s_.x4), (21, .agg #[.int .i64 s_.x5.f0, .int .i64 s_.x5.f1, .int .i64 s_.x5.f2, .int .i64 s_.x5.f3]), (23, .agg #[.int .i64 s_.x6.f0, .int .i64 s_.x6.f1]), (25, .int .i64 s_.x7), (27, .bool s_.x8), (28, .agg #[.int .i64 s_.x1, .int .i64 s_.x2, .int .i64 s_.x3, .int .i64 s_.x4, .int .i64 s_.x5.f0, .int .i64 s_.x5.f1, .int .i64 s_.x5.f2, .int .i64 s_.x5.f3, .int .i64 s_.x6.f0, .int .i64 s_.x6.f1, .int .i64 s_.x7, .bool s_.x8, .slice none 0 0, .slice none 0 0]), (6, .pointer (some ⟨s_.gc, 0, none⟩))]) (fun s_ w' => RD 101 w w' g s_.l s_.s ∧ w'.heap[g2]? = some (.cells #[.int .i64 0, .int .i64 0, .int .i64 0, .int .i64 0, .int .i64 0, .int .i64 0, .int .i64 0, .int .i64 0, .int .i64 0, .int .i64 0, .int .i64 0, .bool false, .slice none 0 0, .slice none 0 0] 29 (0, 0)) ∧ w'.heap[gr]? = some (.cells #[.pointer (some ⟨g, 0, none⟩)] 99 (0, 0)) ∧ w'.heap[s_.gc]? = some (.cells #[.int .i64 0, .int .i64 0, .int .i64 0, .int .i64 0, .int .i64 0, .int .i64 0, .int .i64 0, .int .i64 0, .int .i64 0, .int .i64 0, .int .i64 0, .bool false, .slice none 0 0, .slice none 0 0] 29 (0, 0)) ∧ s_.gc ≠ g ∧ g2 ≠ s_.gc ∧ gr ≠ s_.gc ∧ w.heap.size ≤ s_.gc ∧ Step pCmd0 l9 s9 ⟨s_.x1, s_.x2, s_.x3, s_.x4, s_.x5, s_.x6, s_.x7, s_.x8, [], []⟩ s_.l s_.s) ?_ ?_
 rotate_left
 ·intro hCont
  refine two_ (i := 1) (j := 17) (Ni := some 13) (Nj := some 6) #[true, true, true, false, true, false, true, false, true, false, true, false, true, false, true, false, false, false, false] #[true, false, true, false, true, false, true, false, true, false, true, false, true, false, true, false, false, true, false] rfl rfl rfl rfl (by kernel_rfl) (by decide) (by decide) (fun K hK => ?_) (fun K hK => ?_)
  ·skip
   refine goes_ Try.func56 (by kernel_rfl) rfl #[.pointer (some ⟨g, 0, none⟩)] (by rfl) rfl rfl (by simp only [List.map_toArray, List.map_cons, List.map_nil]; rfl) ?_
   with_reducible refine (int_calls HR.out).mono ?_
   rintro e w1 ⟨x1, l1, s1, rfl, h1, k1, st, gd⟩
   refine ⟨_, rfl, ?_⟩
   have n0_ := Aside0.mk (h1)
   have n1_ := Aside0.mk (k1.blk B2.out N2.out (by simp))
   have n2_ := Aside0.mk (k1.blk BR.out NR.out (by simp))
   clear HR
   clear B2
   clear BR
   have HR := n0_
   have B2 := n1_
   have BR := n2_
   clear n0_
   clear n1_
   clear n2_
   have ST1 := Aside0.mk st
   have GD1 := Aside0.mk gd
   clear h1 k1 st gd
   refine hK.out _ _ ((cell_one BR.out)) (fun hHeld => ?_)
   clear hK K
   refine norm_ (a' := ?_) ?_ ?_
   rotate_left
   ·show Act.put _ (some 13) _ = _
    simp only [Act.put, List.setIfInBounds_toArray, List.set_cons_zero, List.set_cons_succ, i64_w, i32_w]
    rfl
   refine two_ (i := 3) (j := 17) (Ni := some 15) (Nj := some 6) #[true, true, true, true, true, false, true, false, true, false, true, false, true, false, true, false, false, false, false] #[true, true, true, false, true, false, true, false, true, false, true, false, true, false, true, false, false, true, false] rfl rfl rfl rfl (by kernel_rfl) (by decide) (by decide) (fun K hK => ?_) (fun K hK => ?_)
   ·skip
    refine goes_ Try.func56 (by kernel_rfl) rfl #[.pointer (some ⟨g, 0, none⟩)] (by rfl) rfl rfl (by simp only [List.map_toArray, List.map_cons, List.map_nil]; rfl) ?_
    with_reducible refine (int_calls HR.out).mono ?_
    rintro e w2 ⟨x2, l2, s2, rfl, h1, k1, st, gd⟩
    refine ⟨_, rfl, ?_⟩
    have n0_ := Aside0.mk (h1)
    have n1_ := Aside0.mk (k1.blk B2.out N2.out (by simp))
    have n2_ := Aside0.mk (k1.blk BR.out NR.out (by simp))
    clear HR
    clear B2
    clear BR
    have HR := n0_
    have B2 := n1_
    have BR := n2_
    clear n0_
    clear n1_
    clear n2_
    have ST2 := Aside0.mk st
    have GD2 := Aside0.mk gd
    clear h1 k1 st gd
    refine hK.out _ _ ((cell_one BR.out)) (fun hHeld => ?_)
    clear hK K
    refine norm_ (a' := ?_) ?_ ?_
    rotate_left
    ·show Act.put _ (some 15) _ = _
     simp only [Act.put, List.setIfInBounds_toArray, List.set_cons_zero, List.set_cons_succ, i64_w, i32_w]
     rfl
    refine two_ (i := 5) (j := 17) (Ni := some 17) (Nj := some 6) #[true, true, true, true, true, true, true, false, true, false, true, false, true, false, true, false, false, false, false] #[true, true, true, true, true, false, true, false, true, false, true, false, true, false, true, false, false, true, false] rfl rfl rfl rfl (by kernel_rfl) (by decide) (by decide) (fun K hK => ?_) (fun K hK => ?_)
    ·skip
     refine goes_ Try.func56 (by kernel_rfl) rfl #[.pointer (some ⟨g, 0, none⟩)] (by rfl) rfl rfl (by simp only [List.map_toArray, List.map_cons, List.map_nil]; rfl) ?_
     with_reducible refine (int_calls HR.out).mono ?_
     rintro e w3 ⟨x3, l3, s3, rfl, h1, k1, st, gd⟩
     refine ⟨_, rfl, ?_⟩
     have n0_ := Aside0.mk (h1)
     have n1_ := Aside0.mk (k1.blk B2.out N2.out (by simp))
     have n2_ := Aside0.mk (k1.blk BR.out NR.out (by simp))
     clear HR
     clear B2
     clear BR
     have HR := n0_
     have B2 := n1_
     have BR := n2_
     clear n0_
     clear n1_
     clear n2_
     have ST3 := Aside0.mk st
     have GD3 := Aside0.mk gd
     clear h1 k1 st gd
     refine hK.out _ _ ((cell_one BR.out)) (fun hHeld => ?_)
     clear hK K
     refine norm_ (a' := ?_) ?_ ?_
     rotate_left
     ·show Act.put _ (some 17) _ = _
      simp only [Act.put, List.setIfInBounds_toArray, List.set_cons_zero, List.set_cons_succ, i64_w, i32_w]
      rfl
     refine two_ (i := 7) (j := 17) (Ni := some 19) (Nj := some 6) #[true, true, true, true, true, true, true, true, true, false, true, false, true, false, true, false, false, false, false] #[true, true, true, true, true, true, true, false, true, false, true, false, true, false, true, false, false, true, false] rfl rfl rfl rfl (by kernel_rfl) (by decide) (by decide) (fun K hK => ?_) (fun K hK => ?_)
     ·skip
      refine goes_ Try.func56 (by kernel_rfl) rfl #[.pointer (some ⟨g, 0, none⟩)] (by rfl) rfl rfl (by simp only [List.map_toArray, List.map_cons, List.map_nil]; rfl) ?_
      with_reducible refine (int_calls HR.out).mono ?_
      rintro e w4 ⟨x4, l4, s4, rfl, h1, k1, st, gd⟩
      refine ⟨_, rfl, ?_⟩
      have n0_ := Aside0.mk (h1)
      have n1_ := Aside0.mk (k1.blk B2.out N2.out (by simp))
      have n2_ := Aside0.mk (k1.blk BR.out NR.out (by simp))
      clear HR
      clear B2
      clear BR
      have HR := n0_
      have B2 := n1_
      have BR := n2_
      clear n0_
      clear n1_
      clear n2_
      have ST4 := Aside0.mk st
      have GD4 := Aside0.mk gd
      clear h1 k1 st gd
      refine hK.out _ _ ((cell_one BR.out)) (fun hHeld => ?_)
      clear hK K
      refine norm_ (a' := ?_) ?_ ?_
      rotate_left
      ·show Act.put _ (some 19) _ = _
       simp only [Act.put, List.setIfInBounds_toArray, List.set_cons_zero, List.set_cons_succ, i64_w, i32_w]
       rfl
      refine two_ (i := 9) (j := 17) (Ni := some 21) (Nj := some 6) #[true, true, true, true, true, true, true, true, true, true, true, false, true, false, true, false, false, false, false] #[true, true, true, true, true, true, true, true, true, false, true, false, true, false, true, false, false, true, false] rfl rfl rfl rfl (by kernel_rfl) (by decide) (by decide) (fun K hK => ?_) (fun K hK => ?_)
      ·skip
       refine goes_ Try.func57 (by kernel_rfl) rfl #[.pointer (some ⟨g, 0, none⟩)] (by rfl) rfl rfl (by simp only [List.map_toArray, List.map_cons, List.map_nil]; rfl) ?_
       with_reducible refine (try_calls HR.out).mono ?_
       rintro e w5 ⟨x5, l5, s5, rfl, h1, k1, st, gd⟩
       refine ⟨_, rfl, ?_⟩
       have n0_ := Aside0.mk (h1)
       have n1_ := Aside0.mk (k1.blk B2.out N2.out (by simp))
       have n2_ := Aside0.mk (k1.blk BR.out NR.out (by simp))
       clear HR
       clear B2
       clear BR
       have HR := n0_
       have B2 := n1_
       have BR := n2_
       clear n0_
       clear n1_
       clear n2_
       have ST5 := Aside0.mk st
       have GD5 := Aside0.mk gd
       clear h1 k1 st gd
       refine hK.out _ _ ((cell_one BR.out)) (fun hHeld => ?_)
       clear hK K
       refine norm_ (a' := ?_) ?_ ?_
       rotate_left
       ·show Act.put _ (some 21) _ = _
        simp only [Act.put, List.setIfInBounds_toArray, List.set_cons_zero, List.set_cons_succ, i64_w, i32_w]
        rfl
       refine two_ (i := 11) (j := 17) (Ni := some 23) (Nj := some 6) #[true, true, true, true, true, true, true, true, true, true, true, true, true, false, true, false, false, false, false] #[true, true, true, true, true, true, true, true, true, true, true, false, true, false, true, false, false, true, false] rfl rfl rfl rfl (by kernel_rfl) (by decide) (by decide) (fun K hK => ?_) (fun K hK => ?_)
       ·skip
        refine goes_ Try.func58 (by kernel_rfl) rfl #[.pointer (some ⟨g, 0, none⟩)] (by rfl) rfl rfl (by simp only [List.map_toArray, List.map_cons, List.map_nil]; rfl) ?_
        with_reducible refine (moment_calls HR.out).mono ?_
        rintro e w6 ⟨x6, l6, s6, rfl, h1, k1, st, gd⟩
        refine ⟨_, rfl, ?_⟩
        have n0_ := Aside0.mk (h1)
        have n1_ := Aside0.mk (k1.blk B2.out N2.out (by simp))
        have n2_ := Aside0.mk (k1.blk BR.out NR.out (by simp))
        clear HR
        clear B2
        clear BR
        have HR := n0_
        have B2 := n1_
        have BR := n2_
        clear n0_
        clear n1_
        clear n2_
        have ST6 := Aside0.mk st
        have GD6 := Aside0.mk gd
        clear h1 k1 st gd
        refine hK.out _ _ ((cell_one BR.out)) (fun hHeld => ?_)
        clear hK K
        refine norm_ (a' := ?_) ?_ ?_
        rotate_left
        ·show Act.put _ (some 23) _ = _
         simp only [Act.put, List.setIfInBounds_toArray, List.set_cons_zero, List.set_cons_succ, i64_w, i32_w]
         rfl
        refine two_ (i := 13) (j := 17) (Ni := some 25) (Nj := some 6) #[true, true, true, true, true, true, true, true, true, true, true, true, true, true, true, false, false, false, false] #[true, true, true, true, true, true, true, true, true, true, true, true, true, false, true, false, false, true, false] rfl rfl rfl rfl (by kernel_rfl) (by decide) (by decide) (fun K hK => ?_) (fun K hK => ?_)
        ·skip
         refine goes_ Try.func59 (by kernel_rfl) rfl #[.pointer (some ⟨g, 0, none⟩)] (by rfl) rfl rfl (by simp only [List.map_toArray, List.map_cons, List.map_nil]; rfl) ?_
         with_reducible refine (num_calls HR.out).mono ?_
         rintro e w7 ⟨x7, l7, s7, rfl, h1, k1, st, gd⟩
         refine ⟨_, rfl, ?_⟩
         have n0_ := Aside0.mk (h1)
         have n1_ := Aside0.mk (k1.blk B2.out N2.out (by simp))
         have n2_ := Aside0.mk (k1.blk BR.out NR.out (by simp))
         clear HR
         clear B2
         clear BR
         have HR := n0_
         have B2 := n1_
         have BR := n2_
         clear n0_
         clear n1_
         clear n2_
         have ST7 := Aside0.mk st
         have GD7 := Aside0.mk gd
         clear h1 k1 st gd
         refine hK.out _ _ ((cell_one BR.out)) (fun hHeld => ?_)
         clear hK K
         refine norm_ (a' := ?_) ?_ ?_
         rotate_left
         ·show Act.put _ (some 25) _ = _
          simp only [Act.put, List.setIfInBounds_toArray, List.set_cons_zero, List.set_cons_succ, i64_w, i32_w]
          rfl
         refine two_ (i := 15) (j := 17) (Ni := some 27) (Nj := some 6) #[true, true, true, true, true, true, true, true, true, true, true, true, true, true, true, true, false, false, false] #[true, true, true, true, true, true, true, true, true, true, true, true, true, true, true, false, false, true, false] rfl rfl rfl rfl (by kernel_rfl) (by decide) (by decide) (fun K hK => ?_) (fun K hK => ?_)
         ·skip
          refine goes_ Try.func60 (by kernel_rfl) rfl #[.pointer (some ⟨g, 0, none⟩)] (by rfl) rfl rfl (by simp only [List.map_toArray, List.map_cons, List.map_nil]; rfl) ?_
          with_reducible refine (flag_calls HR.out).mono ?_
          rintro e w8 ⟨x8, l8, s8, rfl, h1, k1, st, gd⟩
          refine ⟨_, rfl, ?_⟩
          have n0_ := Aside0.mk (h1)
          have n1_ := Aside0.mk (k1.blk B2.out N2.out (by simp))
          have n2_ := Aside0.mk (k1.blk BR.out NR.out (by simp))
          clear HR
          clear B2
          clear BR
          have HR := n0_
          have B2 := n1_
          have BR := n2_
          clear n0_
          clear n1_
          clear n2_
          have ST8 := Aside0.mk st
          have GD8 := Aside0.mk gd
          clear h1 k1 st gd
          refine hK.out _ _ ((cell_one BR.out)) (fun hHeld => ?_)
          clear hK K
          refine norm_ (a' := ?_) ?_ ?_
          rotate_left
          ·show Act.put _ (some 27) _ = _
           simp only [Act.put, List.setIfInBounds_toArray, List.set_cons_zero, List.set_cons_succ, i64_w, i32_w]
           rfl
          refine pure_ (i := 16) (N := some 28) (v := ?_) (a' := ?_) #[true, true, true, true, true, true, true, true, true, true, true, true, true, true, true, true, true, false, false] rfl rfl (by kernel_rfl) (fun _ _ _ h => h) (Or.inl ⟨by rfl, ?_⟩) ?_ ?_
          rotate_left
          ·intro w'
           go_simp
           with_reducible rfl
          rotate_left
          ·simp only [Act.put, List.setIfInBounds_toArray, List.set_cons_zero, List.set_cons_succ, i64_w, i32_w]
           rfl
          refine one_ (i := 17) (N := some 6) #[true, true, true, true, true, true, true, true, true, true, true, true, true, true, true, true, true, true, false] rfl rfl (by kernel_rfl) (by decide) (fun K hK => ?_)
          refine box_step (by rfl) (N := 6) rfl (cs := #[.int .i64 0, .int .i64 0, .int .i64 0, .int .i64 0, .int .i64 0, .int .i64 0, .int .i64 0, .int .i64 0, .int .i64 0, .int .i64 0, .int .i64 0, .bool false, .slice none 0 0, .slice none 0 0]) (t := 29) ?hr_ ?_
          case hr_ => first | (go_simp; done) | (go_simp; rfl)
          intro gc hg3 w9 hbox hb
          have NC := Aside0.mk (show gc ≠ g from by rw [hg3]; exact Nat.ne_of_gt HR.out.lt)
          have N2C := Aside0.mk (show g2 ≠ gc from by rw [hg3]; exact Nat.ne_of_lt (blk_lt B2.out))
          have NRC := Aside0.mk (show gr ≠ gc from by rw [hg3]; exact Nat.ne_of_lt (blk_lt BR.out))
          have WC := Aside0.mk (show w.heap.size ≤ gc from by rw [hg3]; exact HR.out.belowW.size)
          have n0_ := Aside0.mk (HR.out.below hb)
          have n1_ := Aside0.mk (blk_below B2.out hb)
          have n2_ := Aside0.mk (blk_below BR.out hb)
          clear HR
          clear B2
          clear BR
          have HR := n0_
          have B2 := n1_
          have BR := n2_
          clear n0_
          clear n1_
          clear n2_
          have BC := Aside0.mk hbox
          clear hg3 hbox hb
          refine hK.out _ _ ((cell_one BR.out)) (fun hHeld => ?_)
          clear hK K
          refine norm_ (a' := ?_) ?_ ?_
          rotate_left
          ·show Act.put _ (some 6) _ = _
           simp only [Act.put, List.setIfInBounds_toArray, List.set_cons_zero, List.set_cons_succ, i64_w, i32_w]
           rfl
          exact norm_ (by simp only [putAll, Act.put, List.setIfInBounds_toArray, List.set_cons_zero, List.set_cons_succ]) (hCont ⟨x1, x2, x3, x4, x5, x6, x7, x8, l8, s8, gc⟩ _ ⟨HR.out, B2.out, BR.out, BC.out, NC.out, N2C.out, NRC.out, WC.out, ST1.out.bind (ST2.out.bind (ST3.out.bind (ST4.out.bind (ST5.out.bind (ST6.out.bind (ST7.out.bind (ST8.out.bind (Step.pure _ _ _))))))))⟩)
         ·skip
          refine box_step (by rfl) (N := 6) rfl (cs := #[.int .i64 0, .int .i64 0, .int .i64 0, .int .i64 0, .int .i64 0, .int .i64 0, .int .i64 0, .int .i64 0, .int .i64 0, .int .i64 0, .int .i64 0, .bool false, .slice none 0 0, .slice none 0 0]) (t := 29) ?hr_ ?_
          case hr_ => first | (go_simp; done) | (go_simp; rfl)
          intro gc hg3 w9 hbox hb
          have NC := Aside0.mk (show gc ≠ g from by rw [hg3]; exact Nat.ne_of_gt HR.out.lt)
          have N2C := Aside0.mk (show g2 ≠ gc from by rw [hg3]; exact Nat.ne_of_lt (blk_lt B2.out))
          have NRC := Aside0.mk (show gr ≠ gc from by rw [hg3]; exact Nat.ne_of_lt (blk_lt BR.out))
          have WC := Aside0.mk (show w.heap.size ≤ gc from by rw [hg3]; exact HR.out.belowW.size)
          have n0_ := Aside0.mk (HR.out.below hb)
          have n1_ := Aside0.mk (blk_below B2.out hb)
          have n2_ := Aside0.mk (blk_below BR.out hb)
          clear HR
          clear B2
          clear BR
          have HR := n0_
          have B2 := n1_
          have BR := n2_
          clear n0_
          clear n1_
          clear n2_
          have BC := Aside0.mk hbox
          clear hg3 hbox hb
          refine hK.out _ _ ((cell_one BR.out)) (fun hHeld => ?_)
          clear hK K
          refine norm_ (a' := ?_) ?_ ?_
          rotate_left
          ·show Act.put _ (some 6) _ = _
           simp only [Act.put, List.setIfInBounds_toArray, List.set_cons_zero, List.set_cons_succ, i64_w, i32_w]
           rfl
          refine one_ (i := 15) (N := some 27) #[true, true, true, true, true, true, true, true, true, true, true, true, true, true, true, true, false, true, false] rfl rfl (by kernel_rfl) (by decide) (fun K hK => ?_)
          refine goes_ Try.func60 (by kernel_rfl) rfl #[.pointer (some ⟨g, 0, none⟩)] (by rfl) rfl rfl (by simp only [List.map_toArray, List.map_cons, List.map_nil]; rfl) ?_
          with_reducible refine (flag_calls HR.out).mono ?_
          rintro e w8 ⟨x8, l8, s8, rfl, h1, k1, st, gd⟩
          refine ⟨_, rfl, ?_⟩
          have n0_ := Aside0.mk (h1)
          have n1_ := Aside0.mk (k1.blk B2.out N2.out (by simp))
          have n2_ := Aside0.mk (k1.blk BR.out NR.out (by simp))
          have n3_ := Aside0.mk (k1.blk BC.out NC.out (by simp))
          clear HR
          clear B2
          clear BR
          clear BC
          have HR := n0_
          have B2 := n1_
          have BR := n2_
          have BC := n3_
          clear n0_
          clear n1_
          clear n2_
          clear n3_
          have ST8 := Aside0.mk st
          have GD8 := Aside0.mk gd
          clear h1 k1 st gd
          refine hK.out _ _ ((cell_one BR.out)) (fun hHeld => ?_)
          clear hK K
          refine norm_ (a' := ?_) ?_ ?_
          rotate_left
          ·show Act.put _ (some 27) _ = _
           simp only [Act.put, List.setIfInBounds_toArray, List.set_cons_zero, List.set_cons_succ, i64_w, i32_w]
           rfl
          refine pure_ (i := 16) (N := some 28) (v := ?_) (a' := ?_) #[true, true, true, true, true, true, true, true, true, true, true, true, true, true, true, true, true, true, false] rfl rfl (by kernel_rfl) (fun _ _ _ h => h) (Or.inl ⟨by rfl, ?_⟩) ?_ ?_
          rotate_left
          ·intro w'
           go_simp
           with_reducible rfl
          rotate_left
          ·simp only [Act.put, List.setIfInBounds_toArray, List.set_cons_zero, List.set_cons_succ, i64_w, i32_w]
           rfl
          exact norm_ (by simp only [putAll, Act.put, List.setIfInBounds_toArray, List.set_cons_zero, List.set_cons_succ]) (hCont ⟨x1, x2, x3, x4, x5, x6, x7, x8, l8, s8, gc⟩ _ ⟨HR.out, B2.out, BR.out, BC.out, NC.out, N2C.out, NRC.out, WC.out, ST1.out.bind (ST2.out.bind (ST3.out.bind (ST4.out.bind (ST5.out.bind (ST6.out.bind (ST7.out.bind (ST8.out.bind (Step.pure _ _ _))))))))⟩)
        ·skip
         refine box_step (by rfl) (N := 6) rfl (cs := #[.int .i64 0, .int .i64 0, .int .i64 0, .int .i64 0, .int .i64 0, .int .i64 0, .int .i64 0, .int .i64 0, .int .i64 0, .int .i64 0, .int .i64 0, .bool false, .slice none 0 0, .slice none 0 0]) (t := 29) ?hr_ ?_
         case hr_ => first | (go_simp; done) | (go_simp; rfl)
         intro gc hg3 w9 hbox hb
         have NC := Aside0.mk (show gc ≠ g from by rw [hg3]; exact Nat.ne_of_gt HR.out.lt)
         have N2C := Aside0.mk (show g2 ≠ gc from by rw [hg3]; exact Nat.ne_of_lt (blk_lt B2.out))
         have NRC := Aside0.mk (show gr ≠ gc from by rw [hg3]; exact Nat.ne_of_lt (blk_lt BR.out))
         have WC := Aside0.mk (show w.heap.size ≤ gc from by rw [hg3]; exact HR.out.belowW.size)
         have n0_ := Aside0.mk (HR.out.below hb)
         have n1_ := Aside0.mk (blk_below B2.out hb)
         have n2_ := Aside0.mk (blk_below BR.out hb)
         clear HR
         clear B2
         clear BR
         have HR := n0_
         have B2 := n1_
         have BR := n2_
         clear n0_
         clear n1_
         clear n2_
         have BC := Aside0.mk hbox
         clear hg3 hbox hb
         refine hK.out _ _ ((cell_one BR.out)) (fun hHeld => ?_)
         clear hK K
         refine norm_ (a' := ?_) ?_ ?_
         rotate_left
         ·show Act.put _ (some 6) _ = _
          simp only [Act.put, List.setIfInBounds_toArray, List.set_cons_zero, List.set_cons_succ, i64_w, i32_w]
          rfl
         refine one_ (i := 13) (N := some 25) #[true, true, true, true, true, true, true, true, true, true, true, true, true, true, true, false, false, true, false] rfl rfl (by kernel_rfl) (by decide) (fun K hK => ?_)
         refine goes_ Try.func59 (by kernel_rfl) rfl #[.pointer (some ⟨g, 0, none⟩)] (by rfl) rfl rfl (by simp only [List.map_toArray, List.map_cons, List.map_nil]; rfl) ?_
         with_reducible refine (num_calls HR.out).mono ?_
         rintro e w7 ⟨x7, l7, s7, rfl, h1, k1, st, gd⟩
         refine ⟨_, rfl, ?_⟩
         have n0_ := Aside0.mk (h1)
         have n1_ := Aside0.mk (k1.blk B2.out N2.out (by simp))
         have n2_ := Aside0.mk (k1.blk BR.out NR.out (by simp))
         have n3_ := Aside0.mk (k1.blk BC.out NC.out (by simp))
         clear HR
         clear B2
         clear BR
         clear BC
         have HR := n0_
         have B2 := n1_
         have BR := n2_
         have BC := n3_
         clear n0_
         clear n1_
         clear n2_
         clear n3_
         have ST7 := Aside0.mk st
         have GD7 := Aside0.mk gd
         clear h1 k1 st gd
         refine hK.out _ _ ((cell_one BR.out)) (fun hHeld => ?_)
         clear hK K
         refine norm_ (a' := ?_) ?_ ?_
         rotate_left
         ·show Act.put _ (some 25) _ = _
          simp only [Act.put, List.setIfInBounds_toArray, List.set_cons_zero, List.set_cons_succ, i64_w, i32_w]
          rfl
         refine one_ (i := 15) (N := some 27) #[true, true, true, true, true, true, true, true, true, true, true, true, true, true, true, true, false, true, false] rfl rfl (by kernel_rfl) (by decide) (fun K hK => ?_)
         refine goes_ Try.func60 (by kernel_rfl) rfl #[.pointer (some ⟨g, 0, none⟩)] (by rfl) rfl rfl (by simp only [List.map_toArray, List.map_cons, List.map_nil]; rfl) ?_
         with_reducible refine (flag_calls HR.out).mono ?_
         rintro e w8 ⟨x8, l8, s8, rfl, h1, k1, st, gd⟩
         refine ⟨_, rfl, ?_⟩
         have n0_ := Aside0.mk (h1)
         have n1_ := Aside0.mk (k1.blk B2.out N2.out (by simp))
         have n2_ := Aside0.mk (k1.blk BR.out NR.out (by simp))
         have n3_ := Aside0.mk (k1.blk BC.out NC.out (by simp))
         clear HR
         clear B2
         clear BR
         clear BC
         have HR := n0_
         have B2 := n1_
         have BR := n2_
         have BC := n3_
         clear n0_
         clear n1_
         clear n2_
         clear n3_
         have ST8 := Aside0.mk st
         have GD8 := Aside0.mk gd
         clear h1 k1 st gd
         refine hK.out _ _ ((cell_one BR.out)) (fun hHeld => ?_)
         clear hK K
         refine norm_ (a' := ?_) ?_ ?_
         rotate_left
         ·show Act.put _ (some 27) _ = _
          simp only [Act.put, List.setIfInBounds_toArray, List.set_cons_zero, List.set_cons_succ, i64_w, i32_w]
          rfl
         refine pure_ (i := 16) (N := some 28) (v := ?_) (a' := ?_) #[true, true, true, true, true, true, true, true, true, true, true, true, true, true, true, true, true, true, false] rfl rfl (by kernel_rfl) (fun _ _ _ h => h) (Or.inl ⟨by rfl, ?_⟩) ?_ ?_
         rotate_left
         ·intro w'
          go_simp
          with_reducible rfl
         rotate_left
         ·simp only [Act.put, List.setIfInBounds_toArray, List.set_cons_zero, List.set_cons_succ, i64_w, i32_w]
          rfl
         exact norm_ (by simp only [putAll, Act.put, List.setIfInBounds_toArray, List.set_cons_zero, List.set_cons_succ]) (hCont ⟨x1, x2, x3, x4, x5, x6, x7, x8, l8, s8, gc⟩ _ ⟨HR.out, B2.out, BR.out, BC.out, NC.out, N2C.out, NRC.out, WC.out, ST1.out.bind (ST2.out.bind (ST3.out.bind (ST4.out.bind (ST5.out.bind (ST6.out.bind (ST7.out.bind (ST8.out.bind (Step.pure _ _ _))))))))⟩)
       ·skip
        refine box_step (by rfl) (N := 6) rfl (cs := #[.int .i64 0, .int .i64 0, .int .i64 0, .int .i64 0, .int .i64 0, .int .i64 0, .int .i64 0, .int .i64 0, .int .i64 0, .int .i64 0, .int .i64 0, .bool false, .slice none 0 0, .slice none 0 0]) (t := 29) ?hr_ ?_
        case hr_ => first | (go_simp; done) | (go_simp; rfl)
        intro gc hg3 w9 hbox hb
        have NC := Aside0.mk (show gc ≠ g from by rw [hg3]; exact Nat.ne_of_gt HR.out.lt)
        have N2C := Aside0.mk (show g2 ≠ gc from by rw [hg3]; exact Nat.ne_of_lt (blk_lt B2.out))
        have NRC := Aside0.mk (show gr ≠ gc from by rw [hg3]; exact Nat.ne_of_lt (blk_lt BR.out))
        have WC := Aside0.mk (show w.heap.size ≤ gc from by rw [hg3]; exact HR.out.belowW.size)
        have n0_ := Aside0.mk (HR.out.below hb)
        have n1_ := Aside0.mk (blk_below B2.out hb)
        have n2_ := Aside0.mk (blk_below BR.out hb)
        clear HR
        clear B2
        clear BR
        have HR := n0_
        have B2 := n1_
        have BR := n2_
        clear n0_
        clear n1_
        clear n2_
        have BC := Aside0.mk hbox
        clear hg3 hbox hb
        refine hK.out _ _ ((cell_one BR.out)) (fun hHeld => ?_)
        clear hK K
        refine norm_ (a' := ?_) ?_ ?_
        rotate_left
        ·show Act.put _ (some 6) _ = _
         simp only [Act.put, List.setIfInBounds_toArray, List.set_cons_zero, List.set_cons_succ, i64_w, i32_w]
         rfl
        refine one_ (i := 11) (N := some 23) #[true, true, true, true, true, true, true, true, true, true, true, true, true, false, true, false, false, true, false] rfl rfl (by kernel_rfl) (by decide) (fun K hK => ?_)
        refine goes_ Try.func58 (by kernel_rfl) rfl #[.pointer (some ⟨g, 0, none⟩)] (by rfl) rfl rfl (by simp only [List.map_toArray, List.map_cons, List.map_nil]; rfl) ?_
        with_reducible refine (moment_calls HR.out).mono ?_
        rintro e w6 ⟨x6, l6, s6, rfl, h1, k1, st, gd⟩
        refine ⟨_, rfl, ?_⟩
        have n0_ := Aside0.mk (h1)
        have n1_ := Aside0.mk (k1.blk B2.out N2.out (by simp))
        have n2_ := Aside0.mk (k1.blk BR.out NR.out (by simp))
        have n3_ := Aside0.mk (k1.blk BC.out NC.out (by simp))
        clear HR
        clear B2
        clear BR
        clear BC
        have HR := n0_
        have B2 := n1_
        have BR := n2_
        have BC := n3_
        clear n0_
        clear n1_
        clear n2_
        clear n3_
        have ST6 := Aside0.mk st
        have GD6 := Aside0.mk gd
        clear h1 k1 st gd
        refine hK.out _ _ ((cell_one BR.out)) (fun hHeld => ?_)
        clear hK K
        refine norm_ (a' := ?_) ?_ ?_
        rotate_left
        ·show Act.put _ (some 23) _ = _
         simp only [Act.put, List.setIfInBounds_toArray, List.set_cons_zero, List.set_cons_succ, i64_w, i32_w]
         rfl
        refine one_ (i := 13) (N := some 25) #[true, true, true, true, true, true, true, true, true, true, true, true, true, true, true, false, false, true, false] rfl rfl (by kernel_rfl) (by decide) (fun K hK => ?_)
        refine goes_ Try.func59 (by kernel_rfl) rfl #[.pointer (some ⟨g, 0, none⟩)] (by rfl) rfl rfl (by simp only [List.map_toArray, List.map_cons, List.map_nil]; rfl) ?_
        with_reducible refine (num_calls HR.out).mono ?_
        rintro e w7 ⟨x7, l7, s7, rfl, h1, k1, st, gd⟩
        refine ⟨_, rfl, ?_⟩
        have n0_ := Aside0.mk (h1)
        have n1_ := Aside0.mk (k1.blk B2.out N2.out (by simp))
        have n2_ := Aside0.mk (k1.blk BR.out NR.out (by simp))
        have n3_ := Aside0.mk (k1.blk BC.out NC.out (by simp))
        clear HR
        clear B2
        clear BR
        clear BC
        have HR := n0_
        have B2 := n1_
        have BR := n2_
        have BC := n3_
        clear n0_
        clear n1_
        clear n2_
        clear n3_
        have ST7 := Aside0.mk st
        have GD7 := Aside0.mk gd
        clear h1 k1 st gd
        refine hK.out _ _ ((cell_one BR.out)) (fun hHeld => ?_)
        clear hK K
        refine norm_ (a' := ?_) ?_ ?_
        rotate_left
        ·show Act.put _ (some 25) _ = _
         simp only [Act.put, List.setIfInBounds_toArray, List.set_cons_zero, List.set_cons_succ, i64_w, i32_w]
         rfl
        refine one_ (i := 15) (N := some 27) #[true, true, true, true, true, true, true, true, true, true, true, true, true, true, true, true, false, true, false] rfl rfl (by kernel_rfl) (by decide) (fun K hK => ?_)
        refine goes_ Try.func60 (by kernel_rfl) rfl #[.pointer (some ⟨g, 0, none⟩)] (by rfl) rfl rfl (by simp only [List.map_toArray, List.map_cons, List.map_nil]; rfl) ?_
        with_reducible refine (flag_calls HR.out).mono ?_
        rintro e w8 ⟨x8, l8, s8, rfl, h1, k1, st, gd⟩
        refine ⟨_, rfl, ?_⟩
        have n0_ := Aside0.mk (h1)
        have n1_ := Aside0.mk (k1.blk B2.out N2.out (by simp))
        have n2_ := Aside0.mk (k1.blk BR.out NR.out (by simp))
        have n3_ := Aside0.mk (k1.blk BC.out NC.out (by simp))
        clear HR
        clear B2
        clear BR
        clear BC
        have HR := n0_
        have B2 := n1_
        have BR := n2_
        have BC := n3_
        clear n0_
        clear n1_
        clear n2_
        clear n3_
        have ST8 := Aside0.mk st
        have GD8 := Aside0.mk gd
        clear h1 k1 st gd
        refine hK.out _ _ ((cell_one BR.out)) (fun hHeld => ?_)
        clear hK K
        refine norm_ (a' := ?_) ?_ ?_
        rotate_left
        ·show Act.put _ (some 27) _ = _
         simp only [Act.put, List.setIfInBounds_toArray, List.set_cons_zero, List.set_cons_succ, i64_w, i32_w]
         rfl
        refine pure_ (i := 16) (N := some 28) (v := ?_) (a' := ?_) #[true, true, true, true, true, true, true, true, true, true, true, true, true, true, true, true, true, true, false] rfl rfl (by kernel_rfl) (fun _ _ _ h => h) (Or.inl ⟨by rfl, ?_⟩) ?_ ?_
        rotate_left
        ·intro w'
         go_simp
         with_reducible rfl
        rotate_left
        ·simp only [Act.put, List.setIfInBounds_toArray, List.set_cons_zero, List.set_cons_succ, i64_w, i32_w]
         rfl
        exact norm_ (by simp only [putAll, Act.put, List.setIfInBounds_toArray, List.set_cons_zero, List.set_cons_succ]) (hCont ⟨x1, x2, x3, x4, x5, x6, x7, x8, l8, s8, gc⟩ _ ⟨HR.out, B2.out, BR.out, BC.out, NC.out, N2C.out, NRC.out, WC.out, ST1.out.bind (ST2.out.bind (ST3.out.bind (ST4.out.bind (ST5.out.bind (ST6.out.bind (ST7.out.bind (ST8.out.bind (Step.pure _ _ _))))))))⟩)
      ·skip
       refine box_step (by rfl) (N := 6) rfl (cs := #[.int .i64 0, .int .i64 0, .int .i64 0, .int .i64 0, .int .i64 0, .int .i64 0, .int .i64 0, .int .i64 0, .int .i64 0, .int .i64 0, .int .i64 0, .bool false, .slice none 0 0, .slice none 0 0]) (t := 29) ?hr_ ?_
       case hr_ => first | (go_simp; done) | (go_simp; rfl)
       intro gc hg3 w9 hbox hb
       have NC := Aside0.mk (show gc ≠ g from by rw [hg3]; exact Nat.ne_of_gt HR.out.lt)
       have N2C := Aside0.mk (show g2 ≠ gc from by rw [hg3]; exact Nat.ne_of_lt (blk_lt B2.out))
       have NRC := Aside0.mk (show gr ≠ gc from by rw [hg3]; exact Nat.ne_of_lt (blk_lt BR.out))
       have WC := Aside0.mk (show w.heap.size ≤ gc from by rw [hg3]; exact HR.out.belowW.size)
       have n0_ := Aside0.mk (HR.out.below hb)
       have n1_ := Aside0.mk (blk_below B2.out hb)
       have n2_ := Aside0.mk (blk_below BR.out hb)
       clear HR
       clear B2
       clear BR
       have HR := n0_
       have B2 := n1_
       have BR := n2_
       clear n0_
       clear n1_
       clear n2_
       have BC := Aside0.mk hbox
       clear hg3 hbox hb
       refine hK.out _ _ ((cell_one BR.out)) (fun hHeld => ?_)
       clear hK K
       refine norm_ (a' := ?_) ?_ ?_
       rotate_left
       ·show Act.put _ (some 6) _ = _
        simp only [Act.put, List.setIfInBounds_toArray, List.set_cons_zero, List.set_cons_succ, i64_w, i32_w]
        rfl
       refine one_ (i := 9) (N := some 21) #[true, true, true, true, true, true, true, true, true, true, true, false, true, false, true, false, false, true, false] rfl rfl (by kernel_rfl) (by decide) (fun K hK => ?_)
       refine goes_ Try.func57 (by kernel_rfl) rfl #[.pointer (some ⟨g, 0, none⟩)] (by rfl) rfl rfl (by simp only [List.map_toArray, List.map_cons, List.map_nil]; rfl) ?_
       with_reducible refine (try_calls HR.out).mono ?_
       rintro e w5 ⟨x5, l5, s5, rfl, h1, k1, st, gd⟩
       refine ⟨_, rfl, ?_⟩
       have n0_ := Aside0.mk (h1)
       have n1_ := Aside0.mk (k1.blk B2.out N2.out (by simp))
       have n2_ := Aside0.mk (k1.blk BR.out NR.out (by simp))
       have n3_ := Aside0.mk (k1.blk BC.out NC.out (by simp))
       clear HR
       clear B2
       clear BR
       clear BC
       have HR := n0_
       have B2 := n1_
       have BR := n2_
       have BC := n3_
       clear n0_
       clear n1_
       clear n2_
       clear n3_
       have ST5 := Aside0.mk st
       have GD5 := Aside0.mk gd
       clear h1 k1 st gd
       refine hK.out _ _ ((cell_one BR.out)) (fun hHeld => ?_)
       clear hK K
       refine norm_ (a' := ?_) ?_ ?_
       rotate_left
       ·show Act.put _ (some 21) _ = _
        simp only [Act.put, List.setIfInBounds_toArray, List.set_cons_zero, List.set_cons_succ, i64_w, i32_w]
        rfl
       refine one_ (i := 11) (N := some 23) #[true, true, true, true, true, true, true, true, true, true, true, true, true, false, true, false, false, true, false] rfl rfl (by kernel_rfl) (by decide) (fun K hK => ?_)
       refine goes_ Try.func58 (by kernel_rfl) rfl #[.pointer (some ⟨g, 0, none⟩)] (by rfl) rfl rfl (by simp only [List.map_toArray, List.map_cons, List.map_nil]; rfl) ?_
       with_reducible refine (moment_calls HR.out).mono ?_
       rintro e w6 ⟨x6, l6, s6, rfl, h1, k1, st, gd⟩
       refine ⟨_, rfl, ?_⟩
       have n0_ := Aside0.mk (h1)
       have n1_ := Aside0.mk (k1.blk B2.out N2.out (by simp))
       have n2_ := Aside0.mk (k1.blk BR.out NR.out (by simp))
       have n3_ := Aside0.mk (k1.blk BC.out NC.out (by simp))
       clear HR
       clear B2
       clear BR
       clear BC
       have HR := n0_
       have B2 := n1_
       have BR := n2_
       have BC := n3_
       clear n0_
       clear n1_
       clear n2_
       clear n3_
       have ST6 := Aside0.mk st
       have GD6 := Aside0.mk gd
       clear h1 k1 st gd
       refine hK.out _ _ ((cell_one BR.out)) (fun hHeld => ?_)
       clear hK K
       refine norm_ (a' := ?_) ?_ ?_
       rotate_left
       ·show Act.put _ (some 23) _ = _
        simp only [Act.put, List.setIfInBounds_toArray, List.set_cons_zero, List.set_cons_succ, i64_w, i32_w]
        rfl
       refine one_ (i := 13) (N := some 25) #[true, true, true, true, true, true, true, true, true, true, true, true, true, true, true, false, false, true, false] rfl rfl (by kernel_rfl) (by decide) (fun K hK => ?_)
       refine goes_ Try.func59 (by kernel_rfl) rfl #[.pointer (some ⟨g, 0, none⟩)] (by rfl) rfl rfl (by simp only [List.map_toArray, List.map_cons, List.map_nil]; rfl) ?_
       with_reducible refine (num_calls HR.out).mono ?_
       rintro e w7 ⟨x7, l7, s7, rfl, h1, k1, st, gd⟩
       refine ⟨_, rfl, ?_⟩
       have n0_ := Aside0.mk (h1)
       have n1_ := Aside0.mk (k1.blk B2.out N2.out (by simp))
       have n2_ := Aside0.mk (k1.blk BR.out NR.out (by simp))
       have n3_ := Aside0.mk (k1.blk BC.out NC.out (by simp))
       clear HR
       clear B2
       clear BR
       clear BC
       have HR := n0_
       have B2 := n1_
       have BR := n2_
       have BC := n3_
       clear n0_
       clear n1_
       clear n2_
       clear n3_
       have ST7 := Aside0.mk st
       have GD7 := Aside0.mk gd
       clear h1 k1 st gd
       refine hK.out _ _ ((cell_one BR.out)) (fun hHeld => ?_)
       clear hK K
       refine norm_ (a' := ?_) ?_ ?_
       rotate_left
       ·show Act.put _ (some 25) _ = _
        simp only [Act.put, List.setIfInBounds_toArray, List.set_cons_zero, List.set_cons_succ, i64_w, i32_w]
        rfl
       refine one_ (i := 15) (N := some 27) #[true, true, true, true, true, true, true, true, true, true, true, true, true, true, true, true, false, true, false] rfl rfl (by kernel_rfl) (by decide) (fun K hK => ?_)
       refine goes_ Try.func60 (by kernel_rfl) rfl #[.pointer (some ⟨g, 0, none⟩)] (by rfl) rfl rfl (by simp only [List.map_toArray, List.map_cons, List.map_nil]; rfl) ?_
       with_reducible refine (flag_calls HR.out).mono ?_
       rintro e w8 ⟨x8, l8, s8, rfl, h1, k1, st, gd⟩
       refine ⟨_, rfl, ?_⟩
       have n0_ := Aside0.mk (h1)
       have n1_ := Aside0.mk (k1.blk B2.out N2.out (by simp))
       have n2_ := Aside0.mk (k1.blk BR.out NR.out (by simp))
       have n3_ := Aside0.mk (k1.blk BC.out NC.out (by simp))
       clear HR
       clear B2
       clear BR
       clear BC
       have HR := n0_
       have B2 := n1_
       have BR := n2_
       have BC := n3_
       clear n0_
       clear n1_
       clear n2_
       clear n3_
       have ST8 := Aside0.mk st
       have GD8 := Aside0.mk gd
       clear h1 k1 st gd
       refine hK.out _ _ ((cell_one BR.out)) (fun hHeld => ?_)
       clear hK K
       refine norm_ (a' := ?_) ?_ ?_
       rotate_left
       ·show Act.put _ (some 27) _ = _
        simp only [Act.put, List.setIfInBounds_toArray, List.set_cons_zero, List.set_cons_succ, i64_w, i32_w]
        rfl
       refine pure_ (i := 16) (N := some 28) (v := ?_) (a' := ?_) #[true, true, true, true, true, true, true, true, true, true, true, true, true, true, true, true, true, true, false] rfl rfl (by kernel_rfl) (fun _ _ _ h => h) (Or.inl ⟨by rfl, ?_⟩) ?_ ?_
       rotate_left
       ·intro w'
        go_simp
        with_reducible rfl
       rotate_left
       ·simp only [Act.put, List.setIfInBounds_toArray, List.set_cons_zero, List.set_cons_succ, i64_w, i32_w]
        rfl
       exact norm_ (by simp only [putAll, Act.put, List.setIfInBounds_toArray, List.set_cons_zero, List.set_cons_succ]) (hCont ⟨x1, x2, x3, x4, x5, x6, x7, x8, l8, s8, gc⟩ _ ⟨HR.out, B2.out, BR.out, BC.out, NC.out, N2C.out, NRC.out, WC.out, ST1.out.bind (ST2.out.bind (ST3.out.bind (ST4.out.bind (ST5.out.bind (ST6.out.bind (ST7.out.bind (ST8.out.bind (Step.pure _ _ _))))))))⟩)
     ·skip
      refine box_step (by rfl) (N := 6) rfl (cs := #[.int .i64 0, .int .i64 0, .int .i64 0, .int .i64 0, .int .i64 0, .int .i64 0, .int .i64 0, .int .i64 0, .int .i64 0, .int .i64 0, .int .i64 0, .bool false, .slice none 0 0, .slice none 0 0]) (t := 29) ?hr_ ?_
      case hr_ => first | (go_simp; done) | (go_simp; rfl)
      intro gc hg3 w9 hbox hb
      have NC := Aside0.mk (show gc ≠ g from by rw [hg3]; exact Nat.ne_of_gt HR.out.lt)
      have N2C := Aside0.mk (show g2 ≠ gc from by rw [hg3]; exact Nat.ne_of_lt (blk_lt B2.out))
      have NRC := Aside0.mk (show gr ≠ gc from by rw [hg3]; exact Nat.ne_of_lt (blk_lt BR.out))
      have WC := Aside0.mk (show w.heap.size ≤ gc from by rw [hg3]; exact HR.out.belowW.size)
      have n0_ := Aside0.mk (HR.out.below hb)
      have n1_ := Aside0.mk (blk_below B2.out hb)
      have n2_ := Aside0.mk (blk_below BR.out hb)
      clear HR
      clear B2
      clear BR
      have HR := n0_
      have B2 := n1_
      have BR := n2_
      clear n0_
      clear n1_
      clear n2_
      have BC := Aside0.mk hbox
      clear hg3 hbox hb
      refine hK.out _ _ ((cell_one BR.out)) (fun hHeld => ?_)
      clear hK K
      refine norm_ (a' := ?_) ?_ ?_
      rotate_left
      ·show Act.put _ (some 6) _ = _
       simp only [Act.put, List.setIfInBounds_toArray, List.set_cons_zero, List.set_cons_succ, i64_w, i32_w]
       rfl
      refine one_ (i := 7) (N := some 19) #[true, true, true, true, true, true, true, true, true, false, true, false, true, false, true, false, false, true, false] rfl rfl (by kernel_rfl) (by decide) (fun K hK => ?_)
      refine goes_ Try.func56 (by kernel_rfl) rfl #[.pointer (some ⟨g, 0, none⟩)] (by rfl) rfl rfl (by simp only [List.map_toArray, List.map_cons, List.map_nil]; rfl) ?_
      with_reducible refine (int_calls HR.out).mono ?_
      rintro e w4 ⟨x4, l4, s4, rfl, h1, k1, st, gd⟩
      refine ⟨_, rfl, ?_⟩
      have n0_ := Aside0.mk (h1)
      have n1_ := Aside0.mk (k1.blk B2.out N2.out (by simp))
      have n2_ := Aside0.mk (k1.blk BR.out NR.out (by simp))
      have n3_ := Aside0.mk (k1.blk BC.out NC.out (by simp))
      clear HR
      clear B2
      clear BR
      clear BC
      have HR := n0_
      have B2 := n1_
      have BR := n2_
      have BC := n3_
      clear n0_
      clear n1_
      clear n2_
      clear n3_
      have ST4 := Aside0.mk st
      have GD4 := Aside0.mk gd
      clear h1 k1 st gd
      refine hK.out _ _ ((cell_one BR.out)) (fun hHeld => ?_)
      clear hK K
      refine norm_ (a' := ?_) ?_ ?_
      rotate_left
      ·show Act.put _ (some 19) _ = _
       simp only [Act.put, List.setIfInBounds_toArray, List.set_cons_zero, List.set_cons_succ, i64_w, i32_w]
       rfl
      refine one_ (i := 9) (N := some 21) #[true, true, true, true, true, true, true, true, true, true, true, false, true, false, true, false, false, true, false] rfl rfl (by kernel_rfl) (by decide) (fun K hK => ?_)
      refine goes_ Try.func57 (by kernel_rfl) rfl #[.pointer (some ⟨g, 0, none⟩)] (by rfl) rfl rfl (by simp only [List.map_toArray, List.map_cons, List.map_nil]; rfl) ?_
      with_reducible refine (try_calls HR.out).mono ?_
      rintro e w5 ⟨x5, l5, s5, rfl, h1, k1, st, gd⟩
      refine ⟨_, rfl, ?_⟩
      have n0_ := Aside0.mk (h1)
      have n1_ := Aside0.mk (k1.blk B2.out N2.out (by simp))
      have n2_ := Aside0.mk (k1.blk BR.out NR.out (by simp))
      have n3_ := Aside0.mk (k1.blk BC.out NC.out (by simp))
      clear HR
      clear B2
      clear BR
      clear BC
      have HR := n0_
      have B2 := n1_
      have BR := n2_
      have BC := n3_
      clear n0_
      clear n1_
      clear n2_
      clear n3_
      have ST5 := Aside0.mk st
      have GD5 := Aside0.mk gd
      clear h1 k1 st gd
      refine hK.out _ _ ((cell_one BR.out)) (fun hHeld => ?_)
      clear hK K
      refine norm_ (a' := ?_) ?_ ?_
      rotate_left
      ·show Act.put _ (some 21) _ = _
       simp only [Act.put, List.setIfInBounds_toArray, List.set_cons_zero, List.set_cons_succ, i64_w, i32_w]
       rfl
      refine one_ (i := 11) (N := some 23) #[true, true, true, true, true, true, true, true, true, true, true, true, true, false, true, false, false, true, false] rfl rfl (by kernel_rfl) (by decide) (fun K hK => ?_)
      refine goes_ Try.func58 (by kernel_rfl) rfl #[.pointer (some ⟨g, 0, none⟩)] (by rfl) rfl rfl (by simp only [List.map_toArray, List.map_cons, List.map_nil]; rfl) ?_
      with_reducible refine (moment_calls HR.out).mono ?_
      rintro e w6 ⟨x6, l6, s6, rfl, h1, k1, st, gd⟩
      refine ⟨_, rfl, ?_⟩
      have n0_ := Aside0.mk (h1)
      have n1_ := Aside0.mk (k1.blk B2.out N2.out (by simp))
      have n2_ := Aside0.mk (k1.blk BR.out NR.out (by simp))
      have n3_ := Aside0.mk (k1.blk BC.out NC.out (by simp))
      clear HR
      clear B2
      clear BR
      clear BC
      have HR := n0_
      have B2 := n1_
      have BR := n2_
      have BC := n3_
      clear n0_
      clear n1_
      clear n2_
      clear n3_
      have ST6 := Aside0.mk st
      have GD6 := Aside0.mk gd
      clear h1 k1 st gd
      refine hK.out _ _ ((cell_one BR.out)) (fun hHeld => ?_)
      clear hK K
      refine norm_ (a' := ?_) ?_ ?_
      rotate_left
      ·show Act.put _ (some 23) _ = _
       simp only [Act.put, List.setIfInBounds_toArray, List.set_cons_zero, List.set_cons_succ, i64_w, i32_w]
       rfl
      refine one_ (i := 13) (N := some 25) #[true, true, true, true, true, true, true, true, true, true, true, true, true, true, true, false, false, true, false] rfl rfl (by kernel_rfl) (by decide) (fun K hK => ?_)
      refine goes_ Try.func59 (by kernel_rfl) rfl #[.pointer (some ⟨g, 0, none⟩)] (by rfl) rfl rfl (by simp only [List.map_toArray, List.map_cons, List.map_nil]; rfl) ?_
      with_reducible refine (num_calls HR.out).mono ?_
      rintro e w7 ⟨x7, l7, s7, rfl, h1, k1, st, gd⟩
      refine ⟨_, rfl, ?_⟩
      have n0_ := Aside0.mk (h1)
      have n1_ := Aside0.mk (k1.blk B2.out N2.out (by simp))
      have n2_ := Aside0.mk (k1.blk BR.out NR.out (by simp))
      have n3_ := Aside0.mk (k1.blk BC.out NC.out (by simp))
      clear HR
      clear B2
      clear BR
      clear BC
      have HR := n0_
      have B2 := n1_
      have BR := n2_
      have BC := n3_
      clear n0_
      clear n1_
      clear n2_
      clear n3_
      have ST7 := Aside0.mk st
      have GD7 := Aside0.mk gd
      clear h1 k1 st gd
      refine hK.out _ _ ((cell_one BR.out)) (fun hHeld => ?_)
      clear hK K
      refine norm_ (a' := ?_) ?_ ?_
      rotate_left
      ·show Act.put _ (some 25) _ = _
       simp only [Act.put, List.setIfInBounds_toArray, List.set_cons_zero, List.set_cons_succ, i64_w, i32_w]
       rfl
      refine one_ (i := 15) (N := some 27) #[true, true, true, true, true, true, true, true, true, true, true, true, true, true, true, true, false, true, false] rfl rfl (by kernel_rfl) (by decide) (fun K hK => ?_)
      refine goes_ Try.func60 (by kernel_rfl) rfl #[.pointer (some ⟨g, 0, none⟩)] (by rfl) rfl rfl (by simp only [List.map_toArray, List.map_cons, List.map_nil]; rfl) ?_
      with_reducible refine (flag_calls HR.out).mono ?_
      rintro e w8 ⟨x8, l8, s8, rfl, h1, k1, st, gd⟩
      refine ⟨_, rfl, ?_⟩
      have n0_ := Aside0.mk (h1)
      have n1_ := Aside0.mk (k1.blk B2.out N2.out (by simp))
      have n2_ := Aside0.mk (k1.blk BR.out NR.out (by simp))
      have n3_ := Aside0.mk (k1.blk BC.out NC.out (by simp))
      clear HR
      clear B2
      clear BR
      clear BC
      have HR := n0_
      have B2 := n1_
      have BR := n2_
      have BC := n3_
      clear n0_
      clear n1_
      clear n2_
      clear n3_
      have ST8 := Aside0.mk st
      have GD8 := Aside0.mk gd
      clear h1 k1 st gd
      refine hK.out _ _ ((cell_one BR.out)) (fun hHeld => ?_)
      clear hK K
      refine norm_ (a' := ?_) ?_ ?_
      rotate_left
      ·show Act.put _ (some 27) _ = _
       simp only [Act.put, List.setIfInBounds_toArray, List.set_cons_zero, List.set_cons_succ, i64_w, i32_w]
       rfl
      refine pure_ (i := 16) (N := some 28) (v := ?_) (a' := ?_) #[true, true, true, true, true, true, true, true, true, true, true, true, true, true, true, true, true, true, false] rfl rfl (by kernel_rfl) (fun _ _ _ h => h) (Or.inl ⟨by rfl, ?_⟩) ?_ ?_
      rotate_left
      ·intro w'
       go_simp
       with_reducible rfl
      rotate_left
      ·simp only [Act.put, List.setIfInBounds_toArray, List.set_cons_zero, List.set_cons_succ, i64_w, i32_w]
       rfl
      exact norm_ (by simp only [putAll, Act.put, List.setIfInBounds_toArray, List.set_cons_zero, List.set_cons_succ]) (hCont ⟨x1, x2, x3, x4, x5, x6, x7, x8, l8, s8, gc⟩ _ ⟨HR.out, B2.out, BR.out, BC.out, NC.out, N2C.out, NRC.out, WC.out, ST1.out.bind (ST2.out.bind (ST3.out.bind (ST4.out.bind (ST5.out.bind (ST6.out.bind (ST7.out.bind (ST8.out.bind (Step.pure _ _ _))))))))⟩)
    ·skip
     refine box_step (by rfl) (N := 6) rfl (cs := #[.int .i64 0, .int .i64 0, .int .i64 0, .int .i64 0, .int .i64 0, .int .i64 0, .int .i64 0, .int .i64 0, .int .i64 0, .int .i64 0, .int .i64 0, .bool false, .slice none 0 0, .slice none 0 0]) (t := 29) ?hr_ ?_
     case hr_ => first | (go_simp; done) | (go_simp; rfl)
     intro gc hg3 w9 hbox hb
     have NC := Aside0.mk (show gc ≠ g from by rw [hg3]; exact Nat.ne_of_gt HR.out.lt)
     have N2C := Aside0.mk (show g2 ≠ gc from by rw [hg3]; exact Nat.ne_of_lt (blk_lt B2.out))
     have NRC := Aside0.mk (show gr ≠ gc from by rw [hg3]; exact Nat.ne_of_lt (blk_lt BR.out))
     have WC := Aside0.mk (show w.heap.size ≤ gc from by rw [hg3]; exact HR.out.belowW.size)
     have n0_ := Aside0.mk (HR.out.below hb)
     have n1_ := Aside0.mk (blk_below B2.out hb)
     have n2_ := Aside0.mk (blk_below BR.out hb)
     clear HR
     clear B2
     clear BR
     have HR := n0_
     have B2 := n1_
     have BR := n2_
     clear n0_
     clear n1_
     clear n2_
     have BC := Aside0.mk hbox
     clear hg3 hbox hb
     refine hK.out _ _ ((cell_one BR.out)) (fun hHeld => ?_)
     clear hK K
     refine norm_ (a' := ?_) ?_ ?_
     rotate_left
     ·show Act.put _ (some 6) _ = _
      simp only [Act.put, List.setIfInBounds_toArray, List.set_cons_zero, List.set_cons_succ, i64_w, i32_w]
      rfl
     refine one_ (i := 5) (N := some 17) #[true, true, true, true, true, true, true, false, true, false, true, false, true, false, true, false, false, true, false] rfl rfl (by kernel_rfl) (by decide) (fun K hK => ?_)
     refine goes_ Try.func56 (by kernel_rfl) rfl #[.pointer (some ⟨g, 0, none⟩)] (by rfl) rfl rfl (by simp only [List.map_toArray, List.map_cons, List.map_nil]; rfl) ?_
     with_reducible refine (int_calls HR.out).mono ?_
     rintro e w3 ⟨x3, l3, s3, rfl, h1, k1, st, gd⟩
     refine ⟨_, rfl, ?_⟩
     have n0_ := Aside0.mk (h1)
     have n1_ := Aside0.mk (k1.blk B2.out N2.out (by simp))
     have n2_ := Aside0.mk (k1.blk BR.out NR.out (by simp))
     have n3_ := Aside0.mk (k1.blk BC.out NC.out (by simp))
     clear HR
     clear B2
     clear BR
     clear BC
     have HR := n0_
     have B2 := n1_
     have BR := n2_
     have BC := n3_
     clear n0_
     clear n1_
     clear n2_
     clear n3_
     have ST3 := Aside0.mk st
     have GD3 := Aside0.mk gd
     clear h1 k1 st gd
     refine hK.out _ _ ((cell_one BR.out)) (fun hHeld => ?_)
     clear hK K
     refine norm_ (a' := ?_) ?_ ?_
     rotate_left
     ·show Act.put _ (some 17) _ = _
      simp only [Act.put, List.setIfInBounds_toArray, List.set_cons_zero, List.set_cons_succ, i64_w, i32_w]
      rfl
     refine one_ (i := 7) (N := some 19) #[true, true, true, true, true, true, true, true, true, false, true, false, true, false, true, false, false, true, false] rfl rfl (by kernel_rfl) (by decide) (fun K hK => ?_)
     refine goes_ Try.func56 (by kernel_rfl) rfl #[.pointer (some ⟨g, 0, none⟩)] (by rfl) rfl rfl (by simp only [List.map_toArray, List.map_cons, List.map_nil]; rfl) ?_
     with_reducible refine (int_calls HR.out).mono ?_
     rintro e w4 ⟨x4, l4, s4, rfl, h1, k1, st, gd⟩
     refine ⟨_, rfl, ?_⟩
     have n0_ := Aside0.mk (h1)
     have n1_ := Aside0.mk (k1.blk B2.out N2.out (by simp))
     have n2_ := Aside0.mk (k1.blk BR.out NR.out (by simp))
     have n3_ := Aside0.mk (k1.blk BC.out NC.out (by simp))
     clear HR
     clear B2
     clear BR
     clear BC
     have HR := n0_
     have B2 := n1_
     have BR := n2_
     have BC := n3_
     clear n0_
     clear n1_
     clear n2_
     clear n3_
     have ST4 := Aside0.mk st
     have GD4 := Aside0.mk gd
     clear h1 k1 st gd
     refine hK.out _ _ ((cell_one BR.out)) (fun hHeld => ?_)
     clear hK K
     refine norm_ (a' := ?_) ?_ ?_
     rotate_left
     ·show Act.put _ (some 19) _ = _
      simp only [Act.put, List.setIfInBounds_toArray, List.set_cons_zero, List.set_cons_succ, i64_w, i32_w]
      rfl
     refine one_ (i := 9) (N := some 21) #[true, true, true, true, true, true, true, true, true, true, true, false, true, false, true, false, false, true, false] rfl rfl (by kernel_rfl) (by decide) (fun K hK => ?_)
     refine goes_ Try.func57 (by kernel_rfl) rfl #[.pointer (some ⟨g, 0, none⟩)] (by rfl) rfl rfl (by simp only [List.map_toArray, List.map_cons, List.map_nil]; rfl) ?_
     with_reducible refine (try_calls HR.out).mono ?_
     rintro e w5 ⟨x5, l5, s5, rfl, h1, k1, st, gd⟩
     refine ⟨_, rfl, ?_⟩
     have n0_ := Aside0.mk (h1)
     have n1_ := Aside0.mk (k1.blk B2.out N2.out (by simp))
     have n2_ := Aside0.mk (k1.blk BR.out NR.out (by simp))
     have n3_ := Aside0.mk (k1.blk BC.out NC.out (by simp))
     clear HR
     clear B2
     clear BR
     clear BC
     have HR := n0_
     have B2 := n1_
     have BR := n2_
     have BC := n3_
     clear n0_
     clear n1_
     clear n2_
     clear n3_
     have ST5 := Aside0.mk st
     have GD5 := Aside0.mk gd
     clear h1 k1 st gd
     refine hK.out _ _ ((cell_one BR.out)) (fun hHeld => ?_)
     clear hK K
     refine norm_ (a' := ?_) ?_ ?_
     rotate_left
     ·show Act.put _ (some 21) _ = _
      simp only [Act.put, List.setIfInBounds_toArray, List.set_cons_zero, List.set_cons_succ, i64_w, i32_w]
      rfl
     refine one_ (i := 11) (N := some 23) #[true, true, true, true, true, true, true, true, true, true, true, true, true, false, true, false, false, true, false] rfl rfl (by kernel_rfl) (by decide) (fun K hK => ?_)
     refine goes_ Try.func58 (by kernel_rfl) rfl #[.pointer (some ⟨g, 0, none⟩)] (by rfl) rfl rfl (by simp only [List.map_toArray, List.map_cons, List.map_nil]; rfl) ?_
     with_reducible refine (moment_calls HR.out).mono ?_
     rintro e w6 ⟨x6, l6, s6, rfl, h1, k1, st, gd⟩
     refine ⟨_, rfl, ?_⟩
     have n0_ := Aside0.mk (h1)
     have n1_ := Aside0.mk (k1.blk B2.out N2.out (by simp))
     have n2_ := Aside0.mk (k1.blk BR.out NR.out (by simp))
     have n3_ := Aside0.mk (k1.blk BC.out NC.out (by simp))
     clear HR
     clear B2
     clear BR
     clear BC
     have HR := n0_
     have B2 := n1_
     have BR := n2_
     have BC := n3_
     clear n0_
     clear n1_
     clear n2_
     clear n3_
     have ST6 := Aside0.mk st
     have GD6 := Aside0.mk gd
     clear h1 k1 st gd
     refine hK.out _ _ ((cell_one BR.out)) (fun hHeld => ?_)
     clear hK K
     refine norm_ (a' := ?_) ?_ ?_
     rotate_left
     ·show Act.put _ (some 23) _ = _
      simp only [Act.put, List.setIfInBounds_toArray, List.set_cons_zero, List.set_cons_succ, i64_w, i32_w]
      rfl
     refine one_ (i := 13) (N := some 25) #[true, true, true, true, true, true, true, true, true, true, true, true, true, true, true, false, false, true, false] rfl rfl (by kernel_rfl) (by decide) (fun K hK => ?_)
     refine goes_ Try.func59 (by kernel_rfl) rfl #[.pointer (some ⟨g, 0, none⟩)] (by rfl) rfl rfl (by simp only [List.map_toArray, List.map_cons, List.map_nil]; rfl) ?_
     with_reducible refine (num_calls HR.out).mono ?_
     rintro e w7 ⟨x7, l7, s7, rfl, h1, k1, st, gd⟩
     refine ⟨_, rfl, ?_⟩
     have n0_ := Aside0.mk (h1)
     have n1_ := Aside0.mk (k1.blk B2.out N2.out (by simp))
     have n2_ := Aside0.mk (k1.blk BR.out NR.out (by simp))
     have n3_ := Aside0.mk (k1.blk BC.out NC.out (by simp))
     clear HR
     clear B2
     clear BR
     clear BC
     have HR := n0_
     have B2 := n1_
     have BR := n2_
     have BC := n3_
     clear n0_
     clear n1_
     clear n2_
     clear n3_
     have ST7 := Aside0.mk st
     have GD7 := Aside0.mk gd
     clear h1 k1 st gd
     refine hK.out _ _ ((cell_one BR.out)) (fun hHeld => ?_)
     clear hK K
     refine norm_ (a' := ?_) ?_ ?_
     rotate_left
     ·show Act.put _ (some 25) _ = _
      simp only [Act.put, List.setIfInBounds_toArray, List.set_cons_zero, List.set_cons_succ, i64_w, i32_w]
      rfl
     refine one_ (i := 15) (N := some 27) #[true, true, true, true, true, true, true, true, true, true, true, true, true, true, true, true, false, true, false] rfl rfl (by kernel_rfl) (by decide) (fun K hK => ?_)
     refine goes_ Try.func60 (by kernel_rfl) rfl #[.pointer (some ⟨g, 0, none⟩)] (by rfl) rfl rfl (by simp only [List.map_toArray, List.map_cons, List.map_nil]; rfl) ?_
     with_reducible refine (flag_calls HR.out).mono ?_
     rintro e w8 ⟨x8, l8, s8, rfl, h1, k1, st, gd⟩
     refine ⟨_, rfl, ?_⟩
     have n0_ := Aside0.mk (h1)
     have n1_ := Aside0.mk (k1.blk B2.out N2.out (by simp))
     have n2_ := Aside0.mk (k1.blk BR.out NR.out (by simp))
     have n3_ := Aside0.mk (k1.blk BC.out NC.out (by simp))
     clear HR
     clear B2
     clear BR
     clear BC
     have HR := n0_
     have B2 := n1_
     have BR := n2_
     have BC := n3_
     clear n0_
     clear n1_
     clear n2_
     clear n3_
     have ST8 := Aside0.mk st
     have GD8 := Aside0.mk gd
     clear h1 k1 st gd
     refine hK.out _ _ ((cell_one BR.out)) (fun hHeld => ?_)
     clear hK K
     refine norm_ (a' := ?_) ?_ ?_
     rotate_left
     ·show Act.put _ (some 27) _ = _
      simp only [Act.put, List.setIfInBounds_toArray, List.set_cons_zero, List.set_cons_succ, i64_w, i32_w]
      rfl
     refine pure_ (i := 16) (N := some 28) (v := ?_) (a' := ?_) #[true, true, true, true, true, true, true, true, true, true, true, true, true, true, true, true, true, true, false] rfl rfl (by kernel_rfl) (fun _ _ _ h => h) (Or.inl ⟨by rfl, ?_⟩) ?_ ?_
     rotate_left
     ·intro w'
      go_simp
      with_reducible rfl
     rotate_left
     ·simp only [Act.put, List.setIfInBounds_toArray, List.set_cons_zero, List.set_cons_succ, i64_w, i32_w]
      rfl
     exact norm_ (by simp only [putAll, Act.put, List.setIfInBounds_toArray, List.set_cons_zero, List.set_cons_succ]) (hCont ⟨x1, x2, x3, x4, x5, x6, x7, x8, l8, s8, gc⟩ _ ⟨HR.out, B2.out, BR.out, BC.out, NC.out, N2C.out, NRC.out, WC.out, ST1.out.bind (ST2.out.bind (ST3.out.bind (ST4.out.bind (ST5.out.bind (ST6.out.bind (ST7.out.bind (ST8.out.bind (Step.pure _ _ _))))))))⟩)
   ·skip
    refine box_step (by rfl) (N := 6) rfl (cs := #[.int .i64 0, .int .i64 0, .int .i64 0, .int .i64 0, .int .i64 0, .int .i64 0, .int .i64 0, .int .i64 0, .int .i64 0, .int .i64 0, .int .i64 0, .bool false, .slice none 0 0, .slice none 0 0]) (t := 29) ?hr_ ?_
    case hr_ => first | (go_simp; done) | (go_simp; rfl)
    intro gc hg3 w9 hbox hb
    have NC := Aside0.mk (show gc ≠ g from by rw [hg3]; exact Nat.ne_of_gt HR.out.lt)
    have N2C := Aside0.mk (show g2 ≠ gc from by rw [hg3]; exact Nat.ne_of_lt (blk_lt B2.out))
    have NRC := Aside0.mk (show gr ≠ gc from by rw [hg3]; exact Nat.ne_of_lt (blk_lt BR.out))
    have WC := Aside0.mk (show w.heap.size ≤ gc from by rw [hg3]; exact HR.out.belowW.size)
    have n0_ := Aside0.mk (HR.out.below hb)
    have n1_ := Aside0.mk (blk_below B2.out hb)
    have n2_ := Aside0.mk (blk_below BR.out hb)
    clear HR
    clear B2
    clear BR
    have HR := n0_
    have B2 := n1_
    have BR := n2_
    clear n0_
    clear n1_
    clear n2_
    have BC := Aside0.mk hbox
    clear hg3 hbox hb
    refine hK.out _ _ ((cell_one BR.out)) (fun hHeld => ?_)
    clear hK K
    refine norm_ (a' := ?_) ?_ ?_
    rotate_left
    ·show Act.put _ (some 6) _ = _
     simp only [Act.put, List.setIfInBounds_toArray, List.set_cons_zero, List.set_cons_succ, i64_w, i32_w]
     rfl
    refine one_ (i := 3) (N := some 15) #[true, true, true, true, true, false, true, false, true, false, true, false, true, false, true, false, false, true, false] rfl rfl (by kernel_rfl) (by decide) (fun K hK => ?_)
    refine goes_ Try.func56 (by kernel_rfl) rfl #[.pointer (some ⟨g, 0, none⟩)] (by rfl) rfl rfl (by simp only [List.map_toArray, List.map_cons, List.map_nil]; rfl) ?_
    with_reducible refine (int_calls HR.out).mono ?_
    rintro e w2 ⟨x2, l2, s2, rfl, h1, k1, st, gd⟩
    refine ⟨_, rfl, ?_⟩
    have n0_ := Aside0.mk (h1)
    have n1_ := Aside0.mk (k1.blk B2.out N2.out (by simp))
    have n2_ := Aside0.mk (k1.blk BR.out NR.out (by simp))
    have n3_ := Aside0.mk (k1.blk BC.out NC.out (by simp))
    clear HR
    clear B2
    clear BR
    clear BC
    have HR := n0_
    have B2 := n1_
    have BR := n2_
    have BC := n3_
    clear n0_
    clear n1_
    clear n2_
    clear n3_
    have ST2 := Aside0.mk st
    have GD2 := Aside0.mk gd
    clear h1 k1 st gd
    refine hK.out _ _ ((cell_one BR.out)) (fun hHeld => ?_)
    clear hK K
    refine norm_ (a' := ?_) ?_ ?_
    rotate_left
    ·show Act.put _ (some 15) _ = _
     simp only [Act.put, List.setIfInBounds_toArray, List.set_cons_zero, List.set_cons_succ, i64_w, i32_w]
     rfl
    refine one_ (i := 5) (N := some 17) #[true, true, true, true, true, true, true, false, true, false, true, false, true, false, true, false, false, true, false] rfl rfl (by kernel_rfl) (by decide) (fun K hK => ?_)
    refine goes_ Try.func56 (by kernel_rfl) rfl #[.pointer (some ⟨g, 0, none⟩)] (by rfl) rfl rfl (by simp only [List.map_toArray, List.map_cons, List.map_nil]; rfl) ?_
    with_reducible refine (int_calls HR.out).mono ?_
    rintro e w3 ⟨x3, l3, s3, rfl, h1, k1, st, gd⟩
    refine ⟨_, rfl, ?_⟩
    have n0_ := Aside0.mk (h1)
    have n1_ := Aside0.mk (k1.blk B2.out N2.out (by simp))
    have n2_ := Aside0.mk (k1.blk BR.out NR.out (by simp))
    have n3_ := Aside0.mk (k1.blk BC.out NC.out (by simp))
    clear HR
    clear B2
    clear BR
    clear BC
    have HR := n0_
    have B2 := n1_
    have BR := n2_
    have BC := n3_
    clear n0_
    clear n1_
    clear n2_
    clear n3_
    have ST3 := Aside0.mk st
    have GD3 := Aside0.mk gd
    clear h1 k1 st gd
    refine hK.out _ _ ((cell_one BR.out)) (fun hHeld => ?_)
    clear hK K
    refine norm_ (a' := ?_) ?_ ?_
    rotate_left
    ·show Act.put _ (some 17) _ = _
     simp only [Act.put, List.setIfInBounds_toArray, List.set_cons_zero, List.set_cons_succ, i64_w, i32_w]
     rfl
    refine one_ (i := 7) (N := some 19) #[true, true, true, true, true, true, true, true, true, false, true, false, true, false, true, false, false, true, false] rfl rfl (by kernel_rfl) (by decide) (fun K hK => ?_)
    refine goes_ Try.func56 (by kernel_rfl) rfl #[.pointer (some ⟨g, 0, none⟩)] (by rfl) rfl rfl (by simp only [List.map_toArray, List.map_cons, List.map_nil]; rfl) ?_
    with_reducible refine (int_calls HR.out).mono ?_
    rintro e w4 ⟨x4, l4, s4, rfl, h1, k1, st, gd⟩
    refine ⟨_, rfl, ?_⟩
    have n0_ := Aside0.mk (h1)
    have n1_ := Aside0.mk (k1.blk B2.out N2.out (by simp))
    have n2_ := Aside0.mk (k1.blk BR.out NR.out (by simp))
    have n3_ := Aside0.mk (k1.blk BC.out NC.out (by simp))
    clear HR
    clear B2
    clear BR
    clear BC
    have HR := n0_
    have B2 := n1_
    have BR := n2_
    have BC := n3_
    clear n0_
    clear n1_
    clear n2_
    clear n3_
    have ST4 := Aside0.mk st
    have GD4 := Aside0.mk gd
    clear h1 k1 st gd
    refine hK.out _ _ ((cell_one BR.out)) (fun hHeld => ?_)
    clear hK K
    refine norm_ (a' := ?_) ?_ ?_
    rotate_left
    ·show Act.put _ (some 19) _ = _
     simp only [Act.put, List.setIfInBounds_toArray, List.set_cons_zero, List.set_cons_succ, i64_w, i32_w]
     rfl
    refine one_ (i := 9) (N := some 21) #[true, true, true, true, true, true, true, true, true, true, true, false, true, false, true, false, false, true, false] rfl rfl (by kernel_rfl) (by decide) (fun K hK => ?_)
    refine goes_ Try.func57 (by kernel_rfl) rfl #[.pointer (some ⟨g, 0, none⟩)] (by rfl) rfl rfl (by simp only [List.map_toArray, List.map_cons, List.map_nil]; rfl) ?_
    with_reducible refine (try_calls HR.out).mono ?_
    rintro e w5 ⟨x5, l5, s5, rfl, h1, k1, st, gd⟩
    refine ⟨_, rfl, ?_⟩
    have n0_ := Aside0.mk (h1)
    have n1_ := Aside0.mk (k1.blk B2.out N2.out (by simp))
    have n2_ := Aside0.mk (k1.blk BR.out NR.out (by simp))
    have n3_ := Aside0.mk (k1.blk BC.out NC.out (by simp))
    clear HR
    clear B2
    clear BR
    clear BC
    have HR := n0_
    have B2 := n1_
    have BR := n2_
    have BC := n3_
    clear n0_
    clear n1_
    clear n2_
    clear n3_
    have ST5 := Aside0.mk st
    have GD5 := Aside0.mk gd
    clear h1 k1 st gd
    refine hK.out _ _ ((cell_one BR.out)) (fun hHeld => ?_)
    clear hK K
    refine norm_ (a' := ?_) ?_ ?_
    rotate_left
    ·show Act.put _ (some 21) _ = _
     simp only [Act.put, List.setIfInBounds_toArray, List.set_cons_zero, List.set_cons_succ, i64_w, i32_w]
     rfl
    refine one_ (i := 11) (N := some 23) #[true, true, true, true, true, true, true, true, true, true, true, true, true, false, true, false, false, true, false] rfl rfl (by kernel_rfl) (by decide) (fun K hK => ?_)
    refine goes_ Try.func58 (by kernel_rfl) rfl #[.pointer (some ⟨g, 0, none⟩)] (by rfl) rfl rfl (by simp only [List.map_toArray, List.map_cons, List.map_nil]; rfl) ?_
    with_reducible refine (moment_calls HR.out).mono ?_
    rintro e w6 ⟨x6, l6, s6, rfl, h1, k1, st, gd⟩
    refine ⟨_, rfl, ?_⟩
    have n0_ := Aside0.mk (h1)
    have n1_ := Aside0.mk (k1.blk B2.out N2.out (by simp))
    have n2_ := Aside0.mk (k1.blk BR.out NR.out (by simp))
    have n3_ := Aside0.mk (k1.blk BC.out NC.out (by simp))
    clear HR
    clear B2
    clear BR
    clear BC
    have HR := n0_
    have B2 := n1_
    have BR := n2_
    have BC := n3_
    clear n0_
    clear n1_
    clear n2_
    clear n3_
    have ST6 := Aside0.mk st
    have GD6 := Aside0.mk gd
    clear h1 k1 st gd
    refine hK.out _ _ ((cell_one BR.out)) (fun hHeld => ?_)
    clear hK K
    refine norm_ (a' := ?_) ?_ ?_
    rotate_left
    ·show Act.put _ (some 23) _ = _
     simp only [Act.put, List.setIfInBounds_toArray, List.set_cons_zero, List.set_cons_succ, i64_w, i32_w]
     rfl
    refine one_ (i := 13) (N := some 25) #[true, true, true, true, true, true, true, true, true, true, true, true, true, true, true, false, false, true, false] rfl rfl (by kernel_rfl) (by decide) (fun K hK => ?_)
    refine goes_ Try.func59 (by kernel_rfl) rfl #[.pointer (some ⟨g, 0, none⟩)] (by rfl) rfl rfl (by simp only [List.map_toArray, List.map_cons, List.map_nil]; rfl) ?_
    with_reducible refine (num_calls HR.out).mono ?_
    rintro e w7 ⟨x7, l7, s7, rfl, h1, k1, st, gd⟩
    refine ⟨_, rfl, ?_⟩
    have n0_ := Aside0.mk (h1)
    have n1_ := Aside0.mk (k1.blk B2.out N2.out (by simp))
    have n2_ := Aside0.mk (k1.blk BR.out NR.out (by simp))
    have n3_ := Aside0.mk (k1.blk BC.out NC.out (by simp))
    clear HR
    clear B2
    clear BR
    clear BC
    have HR := n0_
    have B2 := n1_
    have BR := n2_
    have BC := n3_
    clear n0_
    clear n1_
    clear n2_
    clear n3_
    have ST7 := Aside0.mk st
    have GD7 := Aside0.mk gd
    clear h1 k1 st gd
    refine hK.out _ _ ((cell_one BR.out)) (fun hHeld => ?_)
    clear hK K
    refine norm_ (a' := ?_) ?_ ?_
    rotate_left
    ·show Act.put _ (some 25) _ = _
     simp only [Act.put, List.setIfInBounds_toArray, List.set_cons_zero, List.set_cons_succ, i64_w, i32_w]
     rfl
    refine one_ (i := 15) (N := some 27) #[true, true, true, true, true, true, true, true, true, true, true, true, true, true, true, true, false, true, false] rfl rfl (by kernel_rfl) (by decide) (fun K hK => ?_)
    refine goes_ Try.func60 (by kernel_rfl) rfl #[.pointer (some ⟨g, 0, none⟩)] (by rfl) rfl rfl (by simp only [List.map_toArray, List.map_cons, List.map_nil]; rfl) ?_
    with_reducible refine (flag_calls HR.out).mono ?_
    rintro e w8 ⟨x8, l8, s8, rfl, h1, k1, st, gd⟩
    refine ⟨_, rfl, ?_⟩
    have n0_ := Aside0.mk (h1)
    have n1_ := Aside0.mk (k1.blk B2.out N2.out (by simp))
    have n2_ := Aside0.mk (k1.blk BR.out NR.out (by simp))
    have n3_ := Aside0.mk (k1.blk BC.out NC.out (by simp))
    clear HR
    clear B2
    clear BR
    clear BC
    have HR := n0_
    have B2 := n1_
    have BR := n2_
    have BC := n3_
    clear n0_
    clear n1_
    clear n2_
    clear n3_
    have ST8 := Aside0.mk st
    have GD8 := Aside0.mk gd
    clear h1 k1 st gd
    refine hK.out _ _ ((cell_one BR.out)) (fun hHeld => ?_)
    clear hK K
    refine norm_ (a' := ?_) ?_ ?_
    rotate_left
    ·show Act.put _ (some 27) _ = _
     simp only [Act.put, List.setIfInBounds_toArray, List.set_cons_zero, List.set_cons_succ, i64_w, i32_w]
     rfl
    refine pure_ (i := 16) (N := some 28) (v := ?_) (a' := ?_) #[true, true, true, true, true, true, true, true, true, true, true, true, true, true, true, true, true, true, false] rfl rfl (by kernel_rfl) (fun _ _ _ h => h) (Or.inl ⟨by rfl, ?_⟩) ?_ ?_
    rotate_left
    ·intro w'
     go_simp
     with_reducible rfl
    rotate_left
    ·simp only [Act.put, List.setIfInBounds_toArray, List.set_cons_zero, List.set_cons_succ, i64_w, i32_w]
     rfl
    exact norm_ (by simp only [putAll, Act.put, List.setIfInBounds_toArray, List.set_cons_zero, List.set_cons_succ]) (hCont ⟨x1, x2, x3, x4, x5, x6, x7, x8, l8, s8, gc⟩ _ ⟨HR.out, B2.out, BR.out, BC.out, NC.out, N2C.out, NRC.out, WC.out, ST1.out.bind (ST2.out.bind (ST3.out.bind (ST4.out.bind (ST5.out.bind (ST6.out.bind (ST7.out.bind (ST8.out.bind (Step.pure _ _ _))))))))⟩)
  ·skip
   refine box_step (by rfl) (N := 6) rfl (cs := #[.int .i64 0, .int .i64 0, .int .i64 0, .int .i64 0, .int .i64 0, .int .i64 0, .int .i64 0, .int .i64 0, .int .i64 0, .int .i64 0, .int .i64 0, .bool false, .slice none 0 0, .slice none 0 0]) (t := 29) ?hr_ ?_
   case hr_ => first | (go_simp; done) | (go_simp; rfl)
   intro gc hg3 w9 hbox hb
   have NC := Aside0.mk (show gc ≠ g from by rw [hg3]; exact Nat.ne_of_gt HR.out.lt)
   have N2C := Aside0.mk (show g2 ≠ gc from by rw [hg3]; exact Nat.ne_of_lt (blk_lt B2.out))
   have NRC := Aside0.mk (show gr ≠ gc from by rw [hg3]; exact Nat.ne_of_lt (blk_lt BR.out))
   have WC := Aside0.mk (show w.heap.size ≤ gc from by rw [hg3]; exact HR.out.belowW.size)
   have n0_ := Aside0.mk (HR.out.below hb)
   have n1_ := Aside0.mk (blk_below B2.out hb)
   have n2_ := Aside0.mk (blk_below BR.out hb)
   clear HR
   clear B2
   clear BR
   have HR := n0_
   have B2 := n1_
   have BR := n2_
   clear n0_
   clear n1_
   clear n2_
   have BC := Aside0.mk hbox
   clear hg3 hbox hb
   refine hK.out _ _ ((cell_one BR.out)) (fun hHeld => ?_)
   clear hK K
   refine norm_ (a' := ?_) ?_ ?_
   rotate_left
   ·show Act.put _ (some 6) _ = _
    simp only [Act.put, List.setIfInBounds_toArray, List.set_cons_zero, List.set_cons_succ, i64_w, i32_w]
    rfl
   refine one_ (i := 1) (N := some 13) #[true, true, true, false, true, false, true, false, true, false, true, false, true, false, true, false, false, true, false] rfl rfl (by kernel_rfl) (by decide) (fun K hK => ?_)
   refine goes_ Try.func56 (by kernel_rfl) rfl #[.pointer (some ⟨g, 0, none⟩)] (by rfl) rfl rfl (by simp only [List.map_toArray, List.map_cons, List.map_nil]; rfl) ?_
   with_reducible refine (int_calls HR.out).mono ?_
   rintro e w1 ⟨x1, l1, s1, rfl, h1, k1, st, gd⟩
   refine ⟨_, rfl, ?_⟩
   have n0_ := Aside0.mk (h1)
   have n1_ := Aside0.mk (k1.blk B2.out N2.out (by simp))
   have n2_ := Aside0.mk (k1.blk BR.out NR.out (by simp))
   have n3_ := Aside0.mk (k1.blk BC.out NC.out (by simp))
   clear HR
   clear B2
   clear BR
   clear BC
   have HR := n0_
   have B2 := n1_
   have BR := n2_
   have BC := n3_
   clear n0_
   clear n1_
   clear n2_
   clear n3_
   have ST1 := Aside0.mk st
   have GD1 := Aside0.mk gd
   clear h1 k1 st gd
   refine hK.out _ _ ((cell_one BR.out)) (fun hHeld => ?_)
   clear hK K
   refine norm_ (a' := ?_) ?_ ?_
   rotate_left
   ·show Act.put _ (some 13) _ = _
    simp only [Act.put, List.setIfInBounds_toArray, List.set_cons_zero, List.set_cons_succ, i64_w, i32_w]
    rfl
   refine one_ (i := 3) (N := some 15) #[true, true, true, true, true, false, true, false, true, false, true, false, true, false, true, false, false, true, false] rfl rfl (by kernel_rfl) (by decide) (fun K hK => ?_)
   refine goes_ Try.func56 (by kernel_rfl) rfl #[.pointer (some ⟨g, 0, none⟩)] (by rfl) rfl rfl (by simp only [List.map_toArray, List.map_cons, List.map_nil]; rfl) ?_
   with_reducible refine (int_calls HR.out).mono ?_
   rintro e w2 ⟨x2, l2, s2, rfl, h1, k1, st, gd⟩
   refine ⟨_, rfl, ?_⟩
   have n0_ := Aside0.mk (h1)
   have n1_ := Aside0.mk (k1.blk B2.out N2.out (by simp))
   have n2_ := Aside0.mk (k1.blk BR.out NR.out (by simp))
   have n3_ := Aside0.mk (k1.blk BC.out NC.out (by simp))
   clear HR
   clear B2
   clear BR
   clear BC
   have HR := n0_
   have B2 := n1_
   have BR := n2_
   have BC := n3_
   clear n0_
   clear n1_
   clear n2_
   clear n3_
   have ST2 := Aside0.mk st
   have GD2 := Aside0.mk gd
   clear h1 k1 st gd
   refine hK.out _ _ ((cell_one BR.out)) (fun hHeld => ?_)
   clear hK K
   refine norm_ (a' := ?_) ?_ ?_
   rotate_left
   ·show Act.put _ (some 15) _ = _
    simp only [Act.put, List.setIfInBounds_toArray, List.set_cons_zero, List.set_cons_succ, i64_w, i32_w]
    rfl
   refine one_ (i := 5) (N := some 17) #[true, true, true, true, true, true, true, false, true, false, true, false, true, false, true, false, false, true, false] rfl rfl (by kernel_rfl) (by decide) (fun K hK => ?_)
   refine goes_ Try.func56 (by kernel_rfl) rfl #[.pointer (some ⟨g, 0, none⟩)] (by rfl) rfl rfl (by simp only [List.map_toArray, List.map_cons, List.map_nil]; rfl) ?_
   with_reducible refine (int_calls HR.out).mono ?_
   rintro e w3 ⟨x3, l3, s3, rfl, h1, k1, st, gd⟩
   refine ⟨_, rfl, ?_⟩
   have n0_ := Aside0.mk (h1)
   have n1_ := Aside0.mk (k1.blk B2.out N2.out (by simp))
   have n2_ := Aside0.mk (k1.blk BR.out NR.out (by simp))
   have n3_ := Aside0.mk (k1.blk BC.out NC.out (by simp))
   clear HR
   clear B2
   clear BR
   clear BC
   have HR := n0_
   have B2 := n1_
   have BR := n2_
   have BC := n3_
   clear n0_
   clear n1_
   clear n2_
   clear n3_
   have ST3 := Aside0.mk st
   have GD3 := Aside0.mk gd
   clear h1 k1 st gd
   refine hK.out _ _ ((cell_one BR.out)) (fun hHeld => ?_)
   clear hK K
   refine norm_ (a' := ?_) ?_ ?_
   rotate_left
   ·show Act.put _ (some 17) _ = _
    simp only [Act.put, List.setIfInBounds_toArray, List.set_cons_zero, List.set_cons_succ, i64_w, i32_w]
    rfl
   refine one_ (i := 7) (N := some 19) #[true, true, true, true, true, true, true, true, true, false, true, false, true, false, true, false, false, true, false] rfl rfl (by kernel_rfl) (by decide) (fun K hK => ?_)
   refine goes_ Try.func56 (by kernel_rfl) rfl #[.pointer (some ⟨g, 0, none⟩)] (by rfl) rfl rfl (by simp only [List.map_toArray, List.map_cons, List.map_nil]; rfl) ?_
   with_reducible refine (int_calls HR.out).mono ?_
   rintro e w4 ⟨x4, l4, s4, rfl, h1, k1, st, gd⟩
   refine ⟨_, rfl, ?_⟩
   have n0_ := Aside0.mk (h1)
   have n1_ := Aside0.mk (k1.blk B2.out N2.out (by simp))
   have n2_ := Aside0.mk (k1.blk BR.out NR.out (by simp))
   have n3_ := Aside0.mk (k1.blk BC.out NC.out (by simp))
   clear HR
   clear B2
   clear BR
   clear BC
   have HR := n0_
   have B2 := n1_
   have BR := n2_
   have BC := n3_
   clear n0_
   clear n1_
   clear n2_
   clear n3_
   have ST4 := Aside0.mk st
   have GD4 := Aside0.mk gd
   clear h1 k1 st gd
   refine hK.out _ _ ((cell_one BR.out)) (fun hHeld => ?_)
   clear hK K
   refine norm_ (a' := ?_) ?_ ?_
   rotate_left
   ·show Act.put _ (some 19) _ = _
    simp only [Act.put, List.setIfInBounds_toArray, List.set_cons_zero, List.set_cons_succ, i64_w, i32_w]
    rfl
   refine one_ (i := 9) (N := some 21) #[true, true, true, true, true, true, true, true, true, true, true, false, true, false, true, false, false, true, false] rfl rfl (by kernel_rfl) (by decide) (fun K hK => ?_)
   refine goes_ Try.func57 (by kernel_rfl) rfl #[.pointer (some ⟨g, 0, none⟩)] (by rfl) rfl rfl (by simp only [List.map_toArray, List.map_cons, List.map_nil]; rfl) ?_
   with_reducible refine (try_calls HR.out).mono ?_
   rintro e w5 ⟨x5, l5, s5, rfl, h1, k1, st, gd⟩
   refine ⟨_, rfl, ?_⟩
   have n0_ := Aside0.mk (h1)
   have n1_ := Aside0.mk (k1.blk B2.out N2.out (by simp))
   have n2_ := Aside0.mk (k1.blk BR.out NR.out (by simp))
   have n3_ := Aside0.mk (k1.blk BC.out NC.out (by simp))
   clear HR
   clear B2
   clear BR
   clear BC
   have HR := n0_
   have B2 := n1_
   have BR := n2_
   have BC := n3_
   clear n0_
   clear n1_
   clear n2_
   clear n3_
   have ST5 := Aside0.mk st
   have GD5 := Aside0.mk gd
   clear h1 k1 st gd
   refine hK.out _ _ ((cell_one BR.out)) (fun hHeld => ?_)
   clear hK K
   refine norm_ (a' := ?_) ?_ ?_
   rotate_left
   ·show Act.put _ (some 21) _ = _
    simp only [Act.put, List.setIfInBounds_toArray, List.set_cons_zero, List.set_cons_succ, i64_w, i32_w]
    rfl
   refine one_ (i := 11) (N := some 23) #[true, true, true, true, true, true, true, true, true, true, true, true, true, false, true, false, false, true, false] rfl rfl (by kernel_rfl) (by decide) (fun K hK => ?_)
   refine goes_ Try.func58 (by kernel_rfl) rfl #[.pointer (some ⟨g, 0, none⟩)] (by rfl) rfl rfl (by simp only [List.map_toArray, List.map_cons, List.map_nil]; rfl) ?_
   with_reducible refine (moment_calls HR.out).mono ?_
   rintro e w6 ⟨x6, l6, s6, rfl, h1, k1, st, gd⟩
   refine ⟨_, rfl, ?_⟩
   have n0_ := Aside0.mk (h1)
   have n1_ := Aside0.mk (k1.blk B2.out N2.out (by simp))
   have n2_ := Aside0.mk (k1.blk BR.out NR.out (by simp))
   have n3_ := Aside0.mk (k1.blk BC.out NC.out (by simp))
   clear HR
   clear B2
   clear BR
   clear BC
   have HR := n0_
   have B2 := n1_
   have BR := n2_
   have BC := n3_
   clear n0_
   clear n1_
   clear n2_
   clear n3_
   have ST6 := Aside0.mk st
   have GD6 := Aside0.mk gd
   clear h1 k1 st gd
   refine hK.out _ _ ((cell_one BR.out)) (fun hHeld => ?_)
   clear hK K
   refine norm_ (a' := ?_) ?_ ?_
   rotate_left
   ·show Act.put _ (some 23) _ = _
    simp only [Act.put, List.setIfInBounds_toArray, List.set_cons_zero, List.set_cons_succ, i64_w, i32_w]
    rfl
   refine one_ (i := 13) (N := some 25) #[true, true, true, true, true, true, true, true, true, true, true, true, true, true, true, false, false, true, false] rfl rfl (by kernel_rfl) (by decide) (fun K hK => ?_)
   refine goes_ Try.func59 (by kernel_rfl) rfl #[.pointer (some ⟨g, 0, none⟩)] (by rfl) rfl rfl (by simp only [List.map_toArray, List.map_cons, List.map_nil]; rfl) ?_
   with_reducible refine (num_calls HR.out).mono ?_
   rintro e w7 ⟨x7, l7, s7, rfl, h1, k1, st, gd⟩
   refine ⟨_, rfl, ?_⟩
   have n0_ := Aside0.mk (h1)
   have n1_ := Aside0.mk (k1.blk B2.out N2.out (by simp))
   have n2_ := Aside0.mk (k1.blk BR.out NR.out (by simp))
   have n3_ := Aside0.mk (k1.blk BC.out NC.out (by simp))
   clear HR
   clear B2
   clear BR
   clear BC
   have HR := n0_
   have B2 := n1_
   have BR := n2_
   have BC := n3_
   clear n0_
   clear n1_
   clear n2_
   clear n3_
   have ST7 := Aside0.mk st
   have GD7 := Aside0.mk gd
   clear h1 k1 st gd
   refine hK.out _ _ ((cell_one BR.out)) (fun hHeld => ?_)
   clear hK K
   refine norm_ (a' := ?_) ?_ ?_
   rotate_left
   ·show Act.put _ (some 25) _ = _
    simp only [Act.put, List.setIfInBounds_toArray, List.set_cons_zero, List.set_cons_succ, i64_w, i32_w]
    rfl
   refine one_ (i := 15) (N := some 27) #[true, true, true, true, true, true, true, true, true, true, true, true, true, true, true, true, false, true, false] rfl rfl (by kernel_rfl) (by decide) (fun K hK => ?_)
   refine goes_ Try.func60 (by kernel_rfl) rfl #[.pointer (some ⟨g, 0, none⟩)] (by rfl) rfl rfl (by simp only [List.map_toArray, List.map_cons, List.map_nil]; rfl) ?_
   with_reducible refine (flag_calls HR.out).mono ?_
   rintro e w8 ⟨x8, l8, s8, rfl, h1, k1, st, gd⟩
   refine ⟨_, rfl, ?_⟩
   have n0_ := Aside0.mk (h1)
   have n1_ := Aside0.mk (k1.blk B2.out N2.out (by simp))
   have n2_ := Aside0.mk (k1.blk BR.out NR.out (by simp))
   have n3_ := Aside0.mk (k1.blk BC.out NC.out (by simp))
   clear HR
   clear B2
   clear BR
   clear BC
   have HR := n0_
   have B2 := n1_
   have BR := n2_
   have BC := n3_
   clear n0_
   clear n1_
   clear n2_
   clear n3_
   have ST8 := Aside0.mk st
   have GD8 := Aside0.mk gd
   clear h1 k1 st gd
   refine hK.out _ _ ((cell_one BR.out)) (fun hHeld => ?_)
   clear hK K
   refine norm_ (a' := ?_) ?_ ?_
   rotate_left
   ·show Act.put _ (some 27) _ = _
    simp only [Act.put, List.setIfInBounds_toArray, List.set_cons_zero, List.set_cons_succ, i64_w, i32_w]
    rfl
   refine pure_ (i := 16) (N := some 28) (v := ?_) (a' := ?_) #[true, true, true, true, true, true, true, true, true, true, true, true, true, true, true, true, true, true, false] rfl rfl (by kernel_rfl) (fun _ _ _ h => h) (Or.inl ⟨by rfl, ?_⟩) ?_ ?_
   rotate_left
   ·intro w'
    go_simp
    with_reducible rfl
   rotate_left
   ·simp only [Act.put, List.setIfInBounds_toArray, List.set_cons_zero, List.set_cons_succ, i64_w, i32_w]
    rfl
   exact norm_ (by simp only [putAll, Act.put, List.setIfInBounds_toArray, List.set_cons_zero, List.set_cons_succ]) (hCont ⟨x1, x2, x3, x4, x5, x6, x7, x8, l8, s8, gc⟩ _ ⟨HR.out, B2.out, BR.out, BC.out, NC.out, N2C.out, NRC.out, WC.out, ST1.out.bind (ST2.out.bind (ST3.out.bind (ST4.out.bind (ST5.out.bind (ST6.out.bind (ST7.out.bind (ST8.out.bind (Step.pure _ _ _))))))))⟩)
 clear HR B2 BR
 rintro ⟨x1, x2, x3, x4, x5, x6, x7, x8, l8, s8, gc⟩ w10 ⟨h1, h2, h3, h4, h5, h6, h7, h8, h9⟩
 dsimp only at h1 h4 h5 h6 h7 h8 h9 ⊢
 have HR := Aside0.mk h1
 have B2 := Aside0.mk h2
 have BR := Aside0.mk h3
 have BC := Aside0.mk h4
 have NC := Aside0.mk h5
 have N2C := Aside0.mk h6
 have NRC := Aside0.mk h7
 have WC := Aside0.mk h8
 have HP := Aside0.mk h9
 clear h1 h2 h3 h4 h5 h6 h7 h8 h9
 have hHeld : w10.cell? ⟨gr, 0, none⟩ = some (.pointer (some ⟨g, 0, none⟩)) := cell_one BR.out
 refine norm_ (a' := ?_) ?_ ?_
 rotate_left
 ·simp only [putAll, Act.put, List.setIfInBounds_toArray, List.set_cons_zero, List.set_cons_succ]
  rfl
 refine one_ (i := 18) (N := none) #[true, true, true, true, true, true, true, true, true, true, true, true, true, true, true, true, true, true, true] rfl rfl (by kernel_rfl) (by decide) (fun K hK => ?_)
 refine store_blk_step (by rfl) (t := 29) (p := 6) (x := .tmp 28) rfl rfl (off := 0) (u := .agg #[.int .i64 x1, .int .i64 x2, .int .i64 x3, .int .i64 x4, .int .i64 x5.f0, .int .i64 x5.f1, .int .i64 x5.f2, .int .i64 x5.f3, .int .i64 x6.f0, .int .i64 x6.f1, .int .i64 x7, .bool x8, .slice none 0 0, .slice none 0 0]) (seg := _) [.int .i64 x1, .int .i64 x2, .int .i64 x3, .int .i64 x4, .int .i64 x5.f0, .int .i64 x5.f1, .int .i64 x5.f2, .int .i64 x5.f3, .int .i64 x6.f0, .int .i64 x6.f1, .int .i64 x7, .bool x8, .slice none 0 0, .slice none 0 0] rfl rfl BC.out rfl (by kernel_rfl) (Nat.le_of_ble_eq_true rfl) (List.forall_mem_cons.2 ⟨rfl, List.forall_mem_cons.2 ⟨rfl, List.forall_mem_cons.2 ⟨rfl, List.forall_mem_cons.2 ⟨rfl, List.forall_mem_cons.2 ⟨rfl, List.forall_mem_cons.2 ⟨rfl, List.forall_mem_cons.2 ⟨rfl, List.forall_mem_cons.2 ⟨rfl, List.forall_mem_cons.2 ⟨rfl, List.forall_mem_cons.2 ⟨rfl, List.forall_mem_cons.2 ⟨rfl, List.forall_mem_cons.2 ⟨rfl, List.forall_mem_cons.2 ⟨rfl, List.forall_mem_cons.2 ⟨rfl, (fun _ h => by cases h)⟩⟩⟩⟩⟩⟩⟩⟩⟩⟩⟩⟩⟩⟩) rfl ?_
 intro wS hS hgS
 have n0_ := Aside0.mk (HR.out.only hgS (Ne.symm NC.out) WC.out)
 have n1_ := Aside0.mk (blk_only B2.out hgS N2C.out)
 have n2_ := Aside0.mk (blk_only BR.out hgS NRC.out)
 have n3_ := Aside0.mk (hS)
 clear HR
 clear B2
 clear BR
 clear BC
 have HR := n0_
 have B2 := n1_
 have BR := n2_
 have BC := n3_
 clear n0_
 clear n1_
 clear n2_
 clear n3_
 clear hS hgS
 refine hK.out _ _ ((cell_one BR.out)) (fun hHeld => ?_)
 clear hK K
 refine done_ (by kernel_rfl) ?_
 obtain ⟨M, hM⟩ : ∃ M, M = wS.heap.size := ⟨_, rfl⟩
 have HM := Aside0.mk (show M = wS.heap.size ∧ g2 < M ∧ g < M ∧ gc < M from ⟨hM, by rw [hM]; exact blk_lt B2.out, by rw [hM]; exact HR.out.lt, by rw [hM]; exact blk_lt BC.out⟩)
 have HWM := Aside0.mk (show w.heap.size ≤ M from by rw [hM]; exact HR.out.belowW.size)
 clear hM
 have HI1 := Aside0.mk (show Cap k65 65 29 (pre22 (⟨x1, x2, x3, x4, x5, x6, x7, x8, [], []⟩ : CmdV)) [.slice none 0 0] w M g gc gr (X1 g2) wS [] from cap_start HM.out.1 BC.out BR.out HR.out.lt NC.out NR.out NRC.out WC.out B2.out)
 have HL1 := Aside0.mk (list_calls (I := Cap k65 65 29 (pre22 (⟨x1, x2, x3, x4, x5, x6, x7, x8, [], []⟩ : CmdV)) [.slice none 0 0] w M g gc gr (X1 g2)) Try.func62 (by kernel_rfl) rfl #[.pointer (some ⟨gc, 0, none⟩), .pointer (some ⟨gr, 0, none⟩)] (fun _ _ _ => Cap.keep (X1.far HM.out.2.1 N2.out N2C.out)) (fun _ _ _ _ => span_one (X1.far HM.out.2.1 N2.out N2C.out) rfl) HR.out HI1.out)
 have hcr4 := cell_one BR.out
 clear B2 BR BC HI1
 go_upto_region 6 with (first | ((with_reducible refine gate_callee (f := 61) rfl ?_); refine goesL_ (some 31) rfl rfl Try.func61 (by kernel_rfl) rfl #[.pointer (some ⟨g, 0, none⟩), .func (.func 62) #[] #[.pointer (some ⟨gc, 0, none⟩), .pointer (some ⟨gr, 0, none⟩)]] rfl (by (try simp only [List.map_toArray, List.map_cons, List.map_nil]); first | done | rfl) ?_; (with_reducible refine (HL1.out).mono ?_); rintro e w11 ⟨sp, l11, s11, rfl, hI, hR, hS, hF⟩; refine ⟨_, rfl, ?_⟩; have hMle := hI.lts.2.2.2.2.2.2.2.2; obtain ⟨⟨v1, hc, ho⟩, hr, _, hx⟩ := hI; obtain ⟨Av1, cv1, rfl⟩ := Kd.R_slice ho; have HR := Aside0.mk hR; have HM2 := Aside0.mk (And.intro hMle (Nat.lt_of_lt_of_le HM.out.2.1 hMle)); have HI2 := Aside0.mk (show Cap k67 67 29 (pre22 (⟨x1, x2, x3, x4, x5, x6, x7, x8, [], []⟩ : CmdV) ++ [.slice Av1 sp.length cv1]) [] w w11.heap.size g gc gr (X2 g2 M w11.heap.size (.slice Av1 sp.length cv1) sp) w11 [] from cap_start rfl hc hr hR.lt NC.out NR.out NRC.out WC.out ⟨hx, Own.old ho⟩); have HL2 := Aside0.mk (list_calls (I := Cap k67 67 29 (pre22 (⟨x1, x2, x3, x4, x5, x6, x7, x8, [], []⟩ : CmdV) ++ [.slice Av1 sp.length cv1]) [] w w11.heap.size g gc gr (X2 g2 M w11.heap.size (.slice Av1 sp.length cv1) sp)) Try.func64 (by kernel_rfl) rfl #[.pointer (some ⟨gc, 0, none⟩), .pointer (some ⟨gr, 0, none⟩)] (fun _ _ _ => Cap.keep (X2.far HM2.out.2 N2.out N2C.out HM.out.2.2.1 HM.out.2.2.2)) (fun _ _ _ _ => write_one (X2.far HM2.out.2 N2.out N2C.out HM.out.2.2.1 HM.out.2.2.2) rfl) HR.out HI2.out); have hcr5 := cell_one hr; have S1 := Aside0.mk hS; clear hMle hc ho hr hx hR hS hF HI2) | ((with_reducible refine gate_callee (f := 61) rfl ?_); refine goesL_ (some 34) rfl rfl Try.func61 (by kernel_rfl) rfl #[.pointer (some ⟨g, 0, none⟩), .func (.func 64) #[] #[.pointer (some ⟨gc, 0, none⟩), .pointer (some ⟨gr, 0, none⟩)]] rfl (by (try simp only [List.map_toArray, List.map_cons, List.map_nil]); first | done | rfl) ?_; (with_reducible refine (HL2.out).mono ?_); rintro e w12 ⟨wr, l12, s12, rfl, hI, hR, hS, hF⟩; refine ⟨_, rfl, ?_⟩; obtain ⟨⟨v2, hc, ho⟩, hr, _, hx⟩ := hI; obtain ⟨Av2, cv2, rfl⟩ := Kd.R_slice ho; have HR := Aside0.mk hR; have BC := Aside0.mk hc; have BR := Aside0.mk hr; have HO2 := Aside0.mk ho; have HX2 := Aside0.mk hx.2; have B2 := Aside0.mk hx.1; have hcr6 := cell_one hr; have hcf := hR.flag_cell; have S2 := Aside0.mk hS; clear hc ho hr hx hR hS hF))
 have HT := Aside0.mk (show Step pCmd l0 false (x9, (⟨x1, x2, x3, x4, x5, x6, x7, x8, sp, wr⟩ : CmdV)) l12 s12 from ST9.out.bind (HP.out.bind (S1.out.bind (S2.out.bind (Step.pure _ _ _)))))
 obtain ⟨A, cA, hch, _, _⟩ := HR.out.head
 have W2 := Aside0.mk G2.out
 cases s12 with
 | true =>
  go_wp2_with (first | ((with_reducible refine gate_store (t := 29) (p := 2) rfl ?_); refine store_blk ?hgd (t := 29) (p := 2) (x := .tmp 51) ?ho ?hN (off := 0) (u := .agg #[.int .i64 0, .int .i64 0, .int .i64 0, .int .i64 0, .int .i64 0, .int .i64 0, .int .i64 0, .int .i64 0, .int .i64 0, .int .i64 0, .int .i64 0, .bool false, .slice none 0 0, .slice none 0 0]) (seg := ?_) [.int .i64 0, .int .i64 0, .int .i64 0, .int .i64 0, .int .i64 0, .int .i64 0, .int .i64 0, .int .i64 0, .int .i64 0, .int .i64 0, .int .i64 0, .bool false, .slice none 0 0, .slice none 0 0] ?hp ?hx B2.out ?hu ?ht ?hfit ?h1 ?hnew ?_; (case hgd => rfl); (case ho => rfl); (case hN => rfl); (case hp => rfl); (case hx => rfl); (case hu => rfl); (case ht => kernel_rfl); (case hfit => exact Nat.le_of_ble_eq_true rfl); (case h1 => exact (List.forall_mem_cons.2 ⟨rfl, List.forall_mem_cons.2 ⟨rfl, List.forall_mem_cons.2 ⟨rfl, List.forall_mem_cons.2 ⟨rfl, List.forall_mem_cons.2 ⟨rfl, List.forall_mem_cons.2 ⟨rfl, List.forall_mem_cons.2 ⟨rfl, List.forall_mem_cons.2 ⟨rfl, List.forall_mem_cons.2 ⟨rfl, List.forall_mem_cons.2 ⟨rfl, List.forall_mem_cons.2 ⟨rfl, List.forall_mem_cons.2 ⟨rfl, List.forall_mem_cons.2 ⟨rfl, List.forall_mem_cons.2 ⟨rfl, (fun _ h => by cases h)⟩⟩⟩⟩⟩⟩⟩⟩⟩⟩⟩⟩⟩⟩)); (case hnew => rfl); intro wS hS hgS; have n0_ := Aside0.mk (HR.out.only hgS (Ne.symm N2.out) W2.out); have n1_ := Aside0.mk (hS); clear HR; clear B2; have HR := n0_; have B2 := n1_; clear n0_; clear n1_; clear hS hgS))
  exact bodyPost_ret (results_ct rfl _ _ g2 29 _ (0, 0) _ rfl B2.out Try.underlying29 rfl (by kernel_rfl)) rfl ⟨zCmd, .slice none 0 0, .slice none 0 0, 9, rfl, Kd.R_nil _ _ _ _ _, Kd.R_nil _ _ _ _ _, HR.out.belowW, .inr ⟨rfl, rfl, fun u => not_told HT.out (.inl rfl) (1, u)⟩⟩
 | false =>
  by_cases hx : x9 = 1
  ·subst hx
   cases l12 with
   | cons cl tl =>
    have hd1 : decide ((0 : Int) < ((cl :: tl).length : Int)) = true := decide_eq_true (by simp only [List.length_cons]; omega)
    have hd2 : decide (0 < (cl :: tl).length) = true := decide_eq_true (by simp)
    go_wp2_with (first | ((with_reducible refine gate_store (t := 29) (p := 2) rfl ?_); refine store_blk ?hgd (t := 29) (p := 2) (x := .tmp 51) ?ho ?hN (off := 0) (u := .agg #[.int .i64 0, .int .i64 0, .int .i64 0, .int .i64 0, .int .i64 0, .int .i64 0, .int .i64 0, .int .i64 0, .int .i64 0, .int .i64 0, .int .i64 0, .bool false, .slice none 0 0, .slice none 0 0]) (seg := ?_) [.int .i64 0, .int .i64 0, .int .i64 0, .int .i64 0, .int .i64 0, .int .i64 0, .int .i64 0, .int .i64 0, .int .i64 0, .int .i64 0, .int .i64 0, .bool false, .slice none 0 0, .slice none 0 0] ?hp ?hx B2.out ?hu ?ht ?hfit ?h1 ?hnew ?_; (case hgd => rfl); (case ho => rfl); (case hN => rfl); (case hp => rfl); (case hx => rfl); (case hu => rfl); (case ht => kernel_rfl); (case hfit => exact Nat.le_of_ble_eq_true rfl); (case h1 => exact (List.forall_mem_cons.2 ⟨rfl, List.forall_mem_cons.2 ⟨rfl, List.forall_mem_cons.2 ⟨rfl, List.forall_mem_cons.2 ⟨rfl, List.forall_mem_cons.2 ⟨rfl, List.forall_mem_cons.2 ⟨rfl, List.forall_mem_cons.2 ⟨rfl, List.forall_mem_cons.2 ⟨rfl, List.forall_mem_cons.2 ⟨rfl, List.forall_mem_cons.2 ⟨rfl, List.forall_mem_cons.2 ⟨rfl, List.forall_mem_cons.2 ⟨rfl, List.forall_mem_cons.2 ⟨rfl, List.forall_mem_cons.2 ⟨rfl, (fun _ h => by cases h)⟩⟩⟩⟩⟩⟩⟩⟩⟩⟩⟩⟩⟩⟩)); (case hnew => rfl); intro wS hS hgS; have n0_ := Aside0.mk (HR.out.only hgS (Ne.symm N2.out) W2.out); have n1_ := Aside0.mk (hS); clear HR; clear B2; have HR := n0_; have B2 := n1_; clear n0_; clear n1_; clear hS hgS))
    exact bodyPost_ret (results_ct rfl _ _ g2 29 _ (0, 0) _ rfl B2.out Try.underlying29 rfl (by kernel_rfl)) rfl ⟨zCmd, .slice none 0 0, .slice none 0 0, 9, rfl, Kd.R_nil _ _ _ _ _, Kd.R_nil _ _ _ _ _, HR.out.belowW, .inr ⟨rfl, rfl, fun u => not_told HT.out (.inr (by simp)) (1, u)⟩⟩
   | nil =>
    go_wp2_with (first | ((with_reducible refine gate_dst (N := 52) rfl ?_); refine load_blk rfl (N := 52) rfl (t := 29) (p := 6) rfl rfl (cs := #[.int .i64 x1, .int .i64 x2, .int .i64 x3, .int .i64 x4, .int .i64 x5.f0, .int .i64 x5.f1, .int .i64 x5.f2, .int .i64 x5.f3, .int .i64 x6.f0, .int .i64 x6.f1, .int .i64 x7, .bool x8, .slice Av1 sp.length cv1, .slice Av2 wr.length cv2]) BC.out Try.underlying29 rfl (by kernel_rfl) ?_) | ((with_reducible refine gate_store (t := 29) (p := 2) rfl ?_); refine store_blk ?hgd (t := 29) (p := 2) (x := .tmp 52) ?ho ?hN (off := 0) (u := .agg #[.int .i64 x1, .int .i64 x2, .int .i64 x3, .int .i64 x4, .int .i64 x5.f0, .int .i64 x5.f1, .int .i64 x5.f2, .int .i64 x5.f3, .int .i64 x6.f0, .int .i64 x6.f1, .int .i64 x7, .bool x8, .slice Av1 sp.length cv1, .slice Av2 wr.length cv2]) (seg := ?_) [.int .i64 x1, .int .i64 x2, .int .i64 x3, .int .i64 x4, .int .i64 x5.f0, .int .i64 x5.f1, .int .i64 x5.f2, .int .i64 x5.f3, .int .i64 x6.f0, .int .i64 x6.f1, .int .i64 x7, .bool x8, .slice Av1 sp.length cv1, .slice Av2 wr.length cv2] ?hp ?hx B2.out ?hu ?ht ?hfit ?h1 ?hnew ?_; (case hgd => rfl); (case ho => rfl); (case hN => rfl); (case hp => rfl); (case hx => rfl); (case hu => rfl); (case ht => kernel_rfl); (case hfit => exact Nat.le_of_ble_eq_true rfl); (case h1 => exact (List.forall_mem_cons.2 ⟨rfl, List.forall_mem_cons.2 ⟨rfl, List.forall_mem_cons.2 ⟨rfl, List.forall_mem_cons.2 ⟨rfl, List.forall_mem_cons.2 ⟨rfl, List.forall_mem_cons.2 ⟨rfl, List.forall_mem_cons.2 ⟨rfl, List.forall_mem_cons.2 ⟨rfl, List.forall_mem_cons.2 ⟨rfl, List.forall_mem_cons.2 ⟨rfl, List.forall_mem_cons.2 ⟨rfl, List.forall_mem_cons.2 ⟨rfl, List.forall_mem_cons.2 ⟨rfl, List.forall_mem_cons.2 ⟨rfl, (fun _ h => by cases h)⟩⟩⟩⟩⟩⟩⟩⟩⟩⟩⟩⟩⟩⟩)); (case hnew => rfl); intro wS hS hgS; have HO2n := Aside0.mk (Own.only HO2.out hgS HM2.out.2); have HX2n := Aside0.mk (R_only HX2.out hgS (fun k_ h_ => Nat.ne_of_gt (Nat.lt_of_lt_of_le HM.out.2.1 h_.1))); have n0_ := Aside0.mk (HR.out.only hgS (Ne.symm N2.out) W2.out); have n1_ := Aside0.mk (hS); clear HR; clear B2; have HR := n0_; have B2 := n1_; clear n0_; clear n1_; clear hS hgS))
    exact bodyPost_ret (results_ct rfl _ _ g2 29 _ (0, 0) _ rfl B2.out Try.underlying29 rfl (by kernel_rfl)) rfl ⟨(⟨x1, x2, x3, x4, x5, x6, x7, x8, sp, wr⟩ : CmdV), .slice Av1 sp.length cv1, .slice Av2 wr.length cv2, 0, rfl, Kd.R_mono (Kd.R_lower HX2n.out HWM.out) (fun _ _ => trivial), Kd.R_mono (Kd.R_lower HO2n.out (Nat.le_trans HWM.out HM2.out.1)) (fun _ _ => trivial), HR.out.belowW, .inl ⟨rfl, HT.out.told⟩⟩
  ·have hd1 : (x9 != 1) = true := bne_iff_ne.mpr hx
   have hd2 : (x9 == 1) = false := beq_eq_false_iff_ne.mpr hx
   go_wp2_with (first | ((with_reducible refine gate_store (t := 29) (p := 2) rfl ?_); refine store_blk ?hgd (t := 29) (p := 2) (x := .tmp 51) ?ho ?hN (off := 0) (u := .agg #[.int .i64 0, .int .i64 0, .int .i64 0, .int .i64 0, .int .i64 0, .int .i64 0, .int .i64 0, .int .i64 0, .int .i64 0, .int .i64 0, .int .i64 0, .bool false, .slice none 0 0, .slice none 0 0]) (seg := ?_) [.int .i64 0, .int .i64 0, .int .i64 0, .int .i64 0, .int .i64 0, .int .i64 0, .int .i64 0, .int .i64 0, .int .i64 0, .int .i64 0, .int .i64 0, .bool false, .slice none 0 0, .slice none 0 0] ?hp ?hx B2.out ?hu ?ht ?hfit ?h1 ?hnew ?_; (case hgd => rfl); (case ho => rfl); (case hN => rfl); (case hp => rfl); (case hx => rfl); (case hu => rfl); (case ht => kernel_rfl); (case hfit => exact Nat.le_of_ble_eq_true rfl); (case h1 => exact (List.forall_mem_cons.2 ⟨rfl, List.forall_mem_cons.2 ⟨rfl, List.forall_mem_cons.2 ⟨rfl, List.forall_mem_cons.2 ⟨rfl, List.forall_mem_cons.2 ⟨rfl, List.forall_mem_cons.2 ⟨rfl, List.forall_mem_cons.2 ⟨rfl, List.forall_mem_cons.2 ⟨rfl, List.forall_mem_cons.2 ⟨rfl, List.forall_mem_cons.2 ⟨rfl, List.forall_mem_cons.2 ⟨rfl, List.forall_mem_cons.2 ⟨rfl, List.forall_mem_cons.2 ⟨rfl, List.forall_mem_cons.2 ⟨rfl, (fun _ h => by cases h)⟩⟩⟩⟩⟩⟩⟩⟩⟩⟩⟩⟩⟩⟩)); (case hnew => rfl); intro wS hS hgS; have n0_ := Aside0.mk (HR.out.only hgS (Ne.symm N2.out) W2.out); have n1_ := Aside0.mk (hS); clear HR; clear B2; have HR := n0_; have B2 := n1_; clear n0_; clear n1_; clear hS hgS))
   exact bodyPost_ret (results_ct rfl _ _ g2 29 _ (0, 0) _ rfl B2.out Try.underlying29 rfl (by kernel_rfl)) rfl ⟨zCmd, .slice none 0 0, .slice none 0 0, 9, rfl, Kd.R_nil _ _ _ _ _, Kd.R_nil _ _ _ _ _, HR.out.belowW, .inr ⟨rfl, rfl, not_form HT.out hx⟩⟩
end Go.Proofs.Ytjfgapaohldbkaa.WireRd


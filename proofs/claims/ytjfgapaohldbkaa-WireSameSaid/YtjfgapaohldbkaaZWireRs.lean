/- What the document's own comparisons of cells and parts come to: true where the two are equal, else false. Conditions: that their rows can be read. -/
import Derived.Test.YtjfgapaohldbkaaZWireSp
import Derived.Test.YtjfgapaohldbkaaZQAx16
namespace Go.Proofs.Ytjfgapaohldbkaa.WireSm
open Go.RowKit Go.Proofs.Ytjfgapaohldbkaa.QA Go.Proofs.YtjfgapaohldbkaaW.PrintWords Go.Proofs.YtjfgapaohldbkaaW.PrintLast Go.Proofs.YtjfgapaohldbkaaW.PrintMore Go.Proofs.Ytjfgapaohldbkaa.Facts Go.Proofs.Ytjfgapaohldbkaa.Codec Go.Proofs.Ytjfgapaohldbkaa.WireC Go.Proofs.Ytjfgapaohldbkaa.WireEq Go.Proofs.Ytjfgapaohldbkaa.WireBlk
attribute [local go_sem] max2_int min2_int max_two min_two max_three min_three max_four min_four
attribute [local go_sem high] eqA23 eqA25 eqA73 eqA78
set_option linter.unusedVariables false
set_option linter.unusedSimpArgs false
structure CellAt (w : World) (ad : Addr) (x : S75) (v : Value) : Prop where
 c0 : w.cell? ad = some (.string x.f0)
 c1 : w.cell? ⟨ad.block, ad.off + 1, none⟩ = some v
 c2 : w.cell? ⟨ad.block, ad.off + 2, none⟩ = some (.bool x.f2)
 c3 : w.cell? ⟨ad.block, ad.off + 3, none⟩ = some (.int .i64 x.f3.f0.f0)
 c4 : w.cell? ⟨ad.block, ad.off + 4, none⟩ = some (.int .i64 x.f3.f0.f1)
 c5 : w.cell? ⟨ad.block, ad.off + 5, none⟩ = some (.int .i64 x.f3.f0.f2)
 c6 : w.cell? ⟨ad.block, ad.off + 6, none⟩ = some (.int .i64 x.f3.f0.f3)
 c7 : w.cell? ⟨ad.block, ad.off + 7, none⟩ = some (.int .i64 x.f3.f1)
 c8 : w.cell? ⟨ad.block, ad.off + 8, none⟩ = some (.int .i64 x.f3.f2.f0)
 c9 : w.cell? ⟨ad.block, ad.off + 9, none⟩ = some (.int .i64 x.f3.f2.f1)
 c10 : w.cell? ⟨ad.block, ad.off + 10, none⟩ = some (.bool x.f3.f3)
 c11 : w.cell? ⟨ad.block, ad.off + 11, none⟩ = some (.string x.f3.f4)
theorem CellAt.below {w w1 : World} {ad : Addr} {x : S75} {v : Value} (h : CellAt w ad x v) (hb : Below w.heap.size w w1) : CellAt w1 ad x v :=
 ⟨pw_cell_below hb h.c0, pw_cell_below hb h.c1, pw_cell_below hb h.c2, pw_cell_below hb h.c3, pw_cell_below hb h.c4, pw_cell_below hb h.c5, pw_cell_below hb h.c6, pw_cell_below hb h.c7, pw_cell_below hb h.c8, pw_cell_below hb h.c9, pw_cell_below hb h.c10, pw_cell_below hb h.c11⟩
theorem CellAt.drew {w : World} {ad : Addr} {x : S75} {v : Value} (h : CellAt w ad x v) : CellAt w.drew ad x v := ⟨h.c0, h.c1, h.c2, h.c3, h.c4, h.c5, h.c6, h.c7, h.c8, h.c9, h.c10, h.c11⟩
theorem cell_only {w w1 : World} {a : Addr} {v : Value} {g : Nat} (h : w.cell? a = some v) (hg : w.grownBy w1 (some g)) (hne : a.block ≠ g) : w1.cell? a = some v := (World.cell?_of_block (hg.block a.block (World.block_lt_of_cell? w a h) (fun e => by injection e with e; exact hne e))).trans h
theorem CellAt.only {w w1 : World} {ad : Addr} {x : S75} {v : Value} {g : Nat} (h : CellAt w ad x v) (hg : w.grownBy w1 (some g)) (hne : ad.block ≠ g) : CellAt w1 ad x v :=
 ⟨cell_only h.c0 hg hne, cell_only h.c1 hg hne, cell_only h.c2 hg hne, cell_only h.c3 hg hne, cell_only h.c4 hg hne, cell_only h.c5 hg hne, cell_only h.c6 hg hne, cell_only h.c7 hg hne, cell_only h.c8 hg hne, cell_only h.c9 hg hne, cell_only h.c10 hg hne, cell_only h.c11 hg hne⟩
theorem ne73 {x y : S75} (h : eq73 x.f3 y.f3 = false) : ((!((x.f3.f0.f0) == (y.f3.f0.f0)) || (!((x.f3.f0.f1) == (y.f3.f0.f1)) || (!((x.f3.f0.f2) == (y.f3.f0.f2)) || (!((x.f3.f0.f3) == (y.f3.f0.f3)))))) || (!((x.f3.f1) == (y.f3.f1)) || ((!((x.f3.f2.f0) == (y.f3.f2.f0)) || (!((x.f3.f2.f1) == (y.f3.f2.f1)))) || (!((x.f3.f3) == (y.f3.f3)) || (!((x.f3.f4).toList == (y.f3.f4).toList)))))) = true := by
 by_cases c : ((!((x.f3.f0.f0) == (y.f3.f0.f0)) || (!((x.f3.f0.f1) == (y.f3.f0.f1)) || (!((x.f3.f0.f2) == (y.f3.f0.f2)) || (!((x.f3.f0.f3) == (y.f3.f0.f3)))))) || (!((x.f3.f1) == (y.f3.f1)) || ((!((x.f3.f2.f0) == (y.f3.f2.f0)) || (!((x.f3.f2.f1) == (y.f3.f2.f1)))) || (!((x.f3.f3) == (y.f3.f3)) || (!((x.f3.f4).toList == (y.f3.f4).toList)))))) = true
 ·exact c
 ·exfalso
  rw [Bool.not_eq_true] at c
  simp only [Bool.or_eq_false_iff, Bool.not_eq_false'] at c
  simp_all [eq73]
theorem eq73n {x y : S75} (h : eq73 x.f3 y.f3 = true) : ((!((x.f3.f0.f0) == (y.f3.f0.f0)) || (!((x.f3.f0.f1) == (y.f3.f0.f1)) || (!((x.f3.f0.f2) == (y.f3.f0.f2)) || (!((x.f3.f0.f3) == (y.f3.f0.f3)))))) || (!((x.f3.f1) == (y.f3.f1)) || ((!((x.f3.f2.f0) == (y.f3.f2.f0)) || (!((x.f3.f2.f1) == (y.f3.f2.f1)))) || (!((x.f3.f3) == (y.f3.f3)) || (!((x.f3.f4).toList == (y.f3.f4).toList)))))) = false := by
 have := (eq73_iff _ _).1 h
 rw [this]
 simp
theorem ne78b {x y : S78} (h : x = y) : ((!((x.f0.f0) == (y.f0.f0)) || (!((x.f0.f1) == (y.f0.f1)))) || (!((x.f1) == (y.f1)) || (!((x.f2).toList == (y.f2).toList)))) = false := by
 subst h
 simp
set_option maxHeartbeats 4000000 in
set_option maxRecDepth 100000 in
theorem cellsR_same {A0 : Option Addr} {c0 : Nat} {l0 : List S75} {A1 : Option Addr} {c1 : Nat} {l1 : List S75} {w : World} (h0 : Kd.C k75 w A0 l0.length l0) (hc0 : l0.length ≤ c0) (h1 : Kd.C k75 w A1 l1.length l1) (hc1 : l1.length ≤ c1) :
  Calls Try.prog 38 #[.slice A0 l0.length c0, .slice A1 l1.length c1] w fun e w' => e = .returned (.bool (eqb l0 l1)) ∧ Below w.heap.size w w' := by
 have hu75 := Try.underlying75
 have hu73 := Try.underlying73
 have hu78 := Try.underlying78
 have hu25 := Try.underlying25
 have hu23 := Try.underlying23
 have H0 := Aside0.mk h0
 have H1 := Aside0.mk h1
 have HM := Aside0.mk h0.2.1
 clear h0 h1 hc0 hc1
 by_cases hl : l0.length = l1.length
 ·have d1 : (l0.length != l1.length) = false := bne_eq_false_iff_eq.mpr hl
  have d2 : ((l0.length : Int) != (l1.length : Int)) = false := bne_eq_false_iff_eq.mpr (by omega)
  have HLE := Aside0.mk hl
  clear hl
  go_enter Try.func38, Try.ntmps38
  go_wp2
  go_loopg [5] (l0.length + 1) (fun kq v5 wr => ∃ i : Int, v5 = .int .i64 i ∧ Aside0 (0 ≤ i ∧ i.toNat ≤ l0.length ∧ kq + i.toNat = l0.length + 1) ∧ Aside0 (l0.take i.toNat = l1.take i.toNat) ∧ Aside0 (Below w.heap.size w wr))
  case atStart => exact ⟨0, by first | rfl | (simp; done), ⟨by omega, by simp, by simp⟩, ⟨rfl⟩, ⟨Below.refl _ _⟩⟩
  case round =>
   obtain ⟨i, rfl, HI, HT, HB⟩ := hrel
   obtain ⟨wo, hwo⟩ : ∃ wo : World, wo = wr := ⟨_, rfl⟩
   subst hwo
   cases gk with
   | zero => exact absurd HI.out.2.2 (by have := HI.out.2.1; omega)
   | succ k1 =>
    by_cases hi : i < (l0.length : Int)
    ·have p1 : 0 ≤ i := HI.out.1
     have p2 : i < (l1.length : Int) := by have := HLE.out; omega
     have d3 : decide (i < (l0.length : Int)) = true := decide_eq_true hi
     obtain ⟨x, hx⟩ : ∃ x, x = rd_T75 l0 i := ⟨_, rfl⟩
     obtain ⟨adx, Ax, cx, ex, ex0, ex1, ex2, ex3, ex4, ex5, ex6, ex7, ex8, ex9, ex10, ex11, hlcx, hCx⟩ := at_T75 (Kd.C_below H0.out HB.out) i p1 (by omega)
     cases ex
     rw [← hx] at ex0 ex1 ex2 ex3 ex4 ex5 ex6 ex7 ex8 ex9 ex10 ex11 hlcx hCx
     have HEx := Aside0.mk (CellAt.mk ex0 ex1 ex2 ex3 ex4 ex5 ex6 ex7 ex8 ex9 ex10 ex11)
     have HXx := Aside0.mk hx
     have HCx := Aside0.mk (And.intro hCx hlcx)
     clear hx hCx hlcx ex0 ex1 ex2 ex3 ex4 ex5 ex6 ex7 ex8 ex9 ex10 ex11
     obtain ⟨y, hy⟩ : ∃ y, y = rd_T75 l1 i := ⟨_, rfl⟩
     obtain ⟨ady, Ay, cy, ey, ey0, ey1, ey2, ey3, ey4, ey5, ey6, ey7, ey8, ey9, ey10, ey11, hlcy, hCy⟩ := at_T75 (Kd.C_below H1.out HB.out) i p1 (by have := HLE.out; omega)
     cases ey
     rw [← hy] at ey0 ey1 ey2 ey3 ey4 ey5 ey6 ey7 ey8 ey9 ey10 ey11 hlcy hCy
     have HEy := Aside0.mk (CellAt.mk ey0 ey1 ey2 ey3 ey4 ey5 ey6 ey7 ey8 ey9 ey10 ey11)
     have HXy := Aside0.mk hy
     have HCy := Aside0.mk (And.intro hCy hlcy)
     clear hy hCy hlcy ey0 ey1 ey2 ey3 ey4 ey5 ey6 ey7 ey8 ey9 ey10 ey11
     have hsum : IntKind.i64.wrap (i + 1) = i + 1 := by rw [IntKind.wrap_i64]; have := HM.out; omega
     have p3 : i + 1 ≤ 9223372036854775807 := by have := HM.out; omega
     replace p1 := eq_true p1
     replace p2 := eq_true p2
     replace hi := eq_true hi
     have HBR := Aside0.mk (Below.refl wo.heap.size wo)
     go_wp2
     have HB0 := Aside0.mk HB.out.size
     have HNx := Aside0.mk (World.block_lt_of_cell? wo _ HEx.out.c0)
     have HNy := Aside0.mk (World.block_lt_of_cell? wo _ HEy.out.c0)
     have n0_ := Aside0.mk (below_drew HB.out)
     have n1_ := Aside0.mk (below_drew HBR.out)
     have n2_ := Aside0.mk (HEx.out.drew)
     have n3_ := Aside0.mk (HEy.out.drew)
     clear HB
     clear HBR
     clear HEx
     clear HEy
     have HB := n0_
     have HBR := n1_
     have HEx := n2_
     have HEy := n3_
     clear n0_
     clear n1_
     clear n2_
     clear n3_
     refine start_ (n := 12) (S := fun w' => CellAt w' (adx.add (i.toNat * 12)) x (.slice Ax x.f1.length cx) ∧ CellAt w' (ady.add (i.toNat * 12)) y (.slice Ay y.f1.length cy)) (ds := []) #[false, false, false, false, false, false, false, false, false, false, false, false] (by kernel_rfl) rfl rfl ⟨HEx.out, HEy.out⟩ (fun hHeld => ?_)
     refine pure_ (i := 0) (N := some 20) (v := ?_) (a' := ?_) #[true, false, false, false, false, false, false, false, false, false, false, false] rfl rfl (by kernel_rfl) (fun _ _ _ h => h) (Or.inl ⟨by rfl, ?_⟩) ?_ ?_
     rotate_left
     ·intro w'
      go_simp
      with_reducible rfl
     rotate_left
     ·simp only [Act.put, List.setIfInBounds_toArray, List.set_cons_zero, List.set_cons_succ, i64_w, i32_w]
      rfl
     refine pure_ (i := 1) (N := some 21) (v := ?_) (a' := ?_) #[true, true, false, false, false, false, false, false, false, false, false, false] rfl rfl (by kernel_rfl) (fun _ _ _ h => h) (Or.inl ⟨by rfl, ?_⟩) ?_ ?_
     rotate_left
     ·intro w'
      go_simp
      with_reducible rfl
     rotate_left
     ·simp only [Act.put, List.setIfInBounds_toArray, List.set_cons_zero, List.set_cons_succ, i64_w, i32_w]
      rfl
     refine pure_ (i := 2) (N := some 22) (v := ?_) (a' := ?_) #[true, true, true, false, false, false, false, false, false, false, false, false] rfl rfl (by kernel_rfl) (fun _ _ _ h => h) (Or.inl ⟨by rfl, ?_⟩) ?_ ?_
     rotate_left
     ·intro w'
      go_simp
      with_reducible rfl
     rotate_left
     ·simp only [Act.put, List.setIfInBounds_toArray, List.set_cons_zero, List.set_cons_succ, i64_w, i32_w]
      rfl
     refine pure_ (i := 4) (N := some 24) (v := ?_) (a' := ?_) #[true, true, true, false, true, false, false, false, false, false, false, false] rfl rfl (by kernel_rfl) (fun _ _ _ h => h) (Or.inl ⟨by rfl, ?_⟩) ?_ ?_
     rotate_left
     ·intro w'
      go_simp
      with_reducible rfl
     rotate_left
     ·simp only [Act.put, List.setIfInBounds_toArray, List.set_cons_zero, List.set_cons_succ, i64_w, i32_w]
      rfl
     refine pure_ (i := 5) (N := some 25) (v := ?_) (a' := ?_) #[true, true, true, false, true, true, false, false, false, false, false, false] rfl rfl (by kernel_rfl) (fun _ _ _ h => h) (Or.inl ⟨by rfl, ?_⟩) ?_ ?_
     rotate_left
     ·intro w'
      go_simp
      with_reducible rfl
     rotate_left
     ·simp only [Act.put, List.setIfInBounds_toArray, List.set_cons_zero, List.set_cons_succ, i64_w, i32_w]
      rfl
     refine pure_ (i := 6) (N := some 26) (v := ?_) (a' := ?_) #[true, true, true, false, true, true, true, false, false, false, false, false] rfl rfl (by kernel_rfl) (fun _ _ _ h => h) (Or.inl ⟨by rfl, ?_⟩) ?_ ?_
     rotate_left
     ·intro w'
      go_simp
      with_reducible rfl
     rotate_left
     ·simp only [Act.put, List.setIfInBounds_toArray, List.set_cons_zero, List.set_cons_succ, i64_w, i32_w]
      rfl
     refine take_ (i := 3) (N := some 23) (v := ?_) (a' := ?_) #[true, true, true, true, true, true, true, false, false, false, false, false] rfl rfl (by kernel_rfl) (fun _ _ _ h => h) (Or.inl ⟨by rfl, ?_⟩) hHeld ?_ ?_
     rotate_left
     ·rintro w' ⟨⟨e0, e1, e2, e3, e4, e5, e6, e7, e8, e9, e10, e11⟩, ⟨f0, f1, f2, f3, f4, f5, f6, f7, f8, f9, f10, f11⟩⟩
      go_simp
      with_reducible rfl
     rotate_left
     ·simp only [Act.put, List.setIfInBounds_toArray, List.set_cons_zero, List.set_cons_succ, i64_w, i32_w]
      rfl
     refine take_ (i := 7) (N := some 27) (v := ?_) (a' := ?_) #[true, true, true, true, true, true, true, true, false, false, false, false] rfl rfl (by kernel_rfl) (fun _ _ _ h => h) (Or.inl ⟨by rfl, ?_⟩) hHeld ?_ ?_
     rotate_left
     ·rintro w' ⟨⟨e0, e1, e2, e3, e4, e5, e6, e7, e8, e9, e10, e11⟩, ⟨f0, f1, f2, f3, f4, f5, f6, f7, f8, f9, f10, f11⟩⟩
      go_simp
      with_reducible rfl
     rotate_left
     ·simp only [Act.put, List.setIfInBounds_toArray, List.set_cons_zero, List.set_cons_succ, i64_w, i32_w]
      rfl
     refine join_ (σ := Nat × Nat) 2 #[true, true, true, true, true, true, true, true, true, true, false, false] (fun s_ => [(6, .pointer (some ⟨s_.1, 0, none⟩)), (7, .pointer (some ⟨s_.2, 0, none⟩))]) (fun s_ w' => Below w.heap.size w w' ∧ Below wo.heap.size wo w' ∧ CellAt w' (adx.add (i.toNat * 12)) x (.slice Ax x.f1.length cx) ∧ CellAt w' (ady.add (i.toNat * 12)) y (.slice Ay y.f1.length cy) ∧ w'.heap[s_.1]? = some (.cells #[.string ⟨#[]⟩, .slice none 0 0, .bool false, .int .i64 0, .int .i64 0, .int .i64 0, .int .i64 0, .int .i64 0, .int .i64 0, .int .i64 0, .bool false, .string ⟨#[]⟩] 75 (0, 0)) ∧ w'.heap[s_.2]? = some (.cells #[.string ⟨#[]⟩, .slice none 0 0, .bool false, .int .i64 0, .int .i64 0, .int .i64 0, .int .i64 0, .int .i64 0, .int .i64 0, .int .i64 0, .bool false, .string ⟨#[]⟩] 75 (0, 0)) ∧ s_.1 ≠ s_.2 ∧ wo.heap.size ≤ s_.1 ∧ wo.heap.size ≤ s_.2) ?_ ?_
     rotate_left
     ·intro hCont
      refine two_ (i := 8) (j := 9) (Ni := some 6) (Nj := some 7) #[true, true, true, true, true, true, true, true, true, false, false, false] #[true, true, true, true, true, true, true, true, false, true, false, false] rfl rfl rfl rfl (by kernel_rfl) (by decide) (by decide) (fun K hK => ?_) (fun K hK => ?_)
      ·skip
       refine box_step (by rfl) (N := 6) rfl (cs := #[.string ⟨#[]⟩, .slice none 0 0, .bool false, .int .i64 0, .int .i64 0, .int .i64 0, .int .i64 0, .int .i64 0, .int .i64 0, .int .i64 0, .bool false, .string ⟨#[]⟩]) (t := 75) ?hr_ ?_
       case hr_ => first | (go_simp; done) | (go_simp; rfl)
       intro ga hg3 w6 hbox hb
       have BX := Aside0.mk hbox
       have Gga := Aside0.mk (show wo.heap.size ≤ ga from by rw [hg3]; exact HBR.out.size)
       have n0_ := Aside0.mk (below_step HB.out hb)
       have n1_ := Aside0.mk (below_step HBR.out hb)
       have n2_ := Aside0.mk (HEx.out.below hb)
       have n3_ := Aside0.mk (HEy.out.below hb)
       clear HB
       clear HBR
       clear HEx
       clear HEy
       have HB := n0_
       have HBR := n1_
       have HEx := n2_
       have HEy := n3_
       clear n0_
       clear n1_
       clear n2_
       clear n3_
       clear hg3 hbox hb
       refine hK.out _ _ ⟨HEx.out, HEy.out⟩ (fun hHeld => ?_)
       clear hK K
       refine norm_ (a' := ?_) ?_ ?_
       rotate_left
       ·show Act.put _ (some 6) _ = _
        simp only [Act.put, List.setIfInBounds_toArray, List.set_cons_zero, List.set_cons_succ, i64_w, i32_w]
        rfl
       refine one_ (i := 9) (N := some 7) #[true, true, true, true, true, true, true, true, true, true, false, false] rfl rfl (by kernel_rfl) (by decide) (fun K hK => ?_)
       refine box_step (by rfl) (N := 7) rfl (cs := #[.string ⟨#[]⟩, .slice none 0 0, .bool false, .int .i64 0, .int .i64 0, .int .i64 0, .int .i64 0, .int .i64 0, .int .i64 0, .int .i64 0, .bool false, .string ⟨#[]⟩]) (t := 75) ?hr_ ?_
       case hr_ => first | (go_simp; done) | (go_simp; rfl)
       intro gb hg3 w7 hbox hb
       have NAB := Aside0.mk (show ga ≠ gb from by rw [hg3]; exact Nat.ne_of_lt (blk_lt BX.out))
       have Ggb := Aside0.mk (show wo.heap.size ≤ gb from by rw [hg3]; exact HBR.out.size)
       have n0_ := Aside0.mk (below_step HB.out hb)
       have n1_ := Aside0.mk (below_step HBR.out hb)
       have n2_ := Aside0.mk (HEx.out.below hb)
       have n3_ := Aside0.mk (HEy.out.below hb)
       have n4_ := Aside0.mk (blk_below BX.out hb)
       clear HB
       clear HBR
       clear HEx
       clear HEy
       clear BX
       have HB := n0_
       have HBR := n1_
       have HEx := n2_
       have HEy := n3_
       have BX := n4_
       clear n0_
       clear n1_
       clear n2_
       clear n3_
       clear n4_
       have BY := Aside0.mk hbox
       clear hg3 hbox hb
       refine hK.out _ _ ⟨HEx.out, HEy.out⟩ (fun hHeld => ?_)
       clear hK K
       refine norm_ (a' := ?_) ?_ ?_
       rotate_left
       ·show Act.put _ (some 7) _ = _
        simp only [Act.put, List.setIfInBounds_toArray, List.set_cons_zero, List.set_cons_succ, i64_w, i32_w]
        rfl
       exact norm_ (by simp only [putAll, Act.put, List.setIfInBounds_toArray, List.set_cons_zero, List.set_cons_succ]) (hCont (ga, gb) _ ⟨HB.out, HBR.out, HEx.out, HEy.out, BX.out, BY.out, NAB.out, Gga.out, Ggb.out⟩)
      ·skip
       refine box_step (by rfl) (N := 7) rfl (cs := #[.string ⟨#[]⟩, .slice none 0 0, .bool false, .int .i64 0, .int .i64 0, .int .i64 0, .int .i64 0, .int .i64 0, .int .i64 0, .int .i64 0, .bool false, .string ⟨#[]⟩]) (t := 75) ?hr_ ?_
       case hr_ => first | (go_simp; done) | (go_simp; rfl)
       intro gb hg3 w6 hbox hb
       have BY := Aside0.mk hbox
       have Ggb := Aside0.mk (show wo.heap.size ≤ gb from by rw [hg3]; exact HBR.out.size)
       have n0_ := Aside0.mk (below_step HB.out hb)
       have n1_ := Aside0.mk (below_step HBR.out hb)
       have n2_ := Aside0.mk (HEx.out.below hb)
       have n3_ := Aside0.mk (HEy.out.below hb)
       clear HB
       clear HBR
       clear HEx
       clear HEy
       have HB := n0_
       have HBR := n1_
       have HEx := n2_
       have HEy := n3_
       clear n0_
       clear n1_
       clear n2_
       clear n3_
       clear hg3 hbox hb
       refine hK.out _ _ ⟨HEx.out, HEy.out⟩ (fun hHeld => ?_)
       clear hK K
       refine norm_ (a' := ?_) ?_ ?_
       rotate_left
       ·show Act.put _ (some 7) _ = _
        simp only [Act.put, List.setIfInBounds_toArray, List.set_cons_zero, List.set_cons_succ, i64_w, i32_w]
        rfl
       refine one_ (i := 8) (N := some 6) #[true, true, true, true, true, true, true, true, true, true, false, false] rfl rfl (by kernel_rfl) (by decide) (fun K hK => ?_)
       refine box_step (by rfl) (N := 6) rfl (cs := #[.string ⟨#[]⟩, .slice none 0 0, .bool false, .int .i64 0, .int .i64 0, .int .i64 0, .int .i64 0, .int .i64 0, .int .i64 0, .int .i64 0, .bool false, .string ⟨#[]⟩]) (t := 75) ?hr_ ?_
       case hr_ => first | (go_simp; done) | (go_simp; rfl)
       intro ga hg3 w7 hbox hb
       have NAB := Aside0.mk (show ga ≠ gb from by rw [hg3]; exact Nat.ne_of_gt (blk_lt BY.out))
       have Gga := Aside0.mk (show wo.heap.size ≤ ga from by rw [hg3]; exact HBR.out.size)
       have n0_ := Aside0.mk (below_step HB.out hb)
       have n1_ := Aside0.mk (below_step HBR.out hb)
       have n2_ := Aside0.mk (HEx.out.below hb)
       have n3_ := Aside0.mk (HEy.out.below hb)
       have n4_ := Aside0.mk (blk_below BY.out hb)
       clear HB
       clear HBR
       clear HEx
       clear HEy
       clear BY
       have HB := n0_
       have HBR := n1_
       have HEx := n2_
       have HEy := n3_
       have BY := n4_
       clear n0_
       clear n1_
       clear n2_
       clear n3_
       clear n4_
       have BX := Aside0.mk hbox
       clear hg3 hbox hb
       refine hK.out _ _ ⟨HEx.out, HEy.out⟩ (fun hHeld => ?_)
       clear hK K
       refine norm_ (a' := ?_) ?_ ?_
       rotate_left
       ·show Act.put _ (some 6) _ = _
        simp only [Act.put, List.setIfInBounds_toArray, List.set_cons_zero, List.set_cons_succ, i64_w, i32_w]
        rfl
       exact norm_ (by simp only [putAll, Act.put, List.setIfInBounds_toArray, List.set_cons_zero, List.set_cons_succ]) (hCont (ga, gb) _ ⟨HB.out, HBR.out, HEx.out, HEy.out, BX.out, BY.out, NAB.out, Gga.out, Ggb.out⟩)
     clear HB HBR HEx HEy
     rintro ⟨ga, gb⟩ w8 ⟨h1, h2, h3, h4, h5, h6, h7, h8, h9⟩
     dsimp only at h5 h6 h7 h8 h9 ⊢
     have HB := Aside0.mk h1
     have HBR := Aside0.mk h2
     have HEx := Aside0.mk h3
     have HEy := Aside0.mk h4
     have BX := Aside0.mk h5
     have BY := Aside0.mk h6
     have NAB := Aside0.mk h7
     have Gga := Aside0.mk h8
     have Ggb := Aside0.mk h9
     clear h1 h2 h3 h4 h5 h6 h7 h8 h9
     have hHeld : CellAt w8 (adx.add (i.toNat * 12)) x (.slice Ax x.f1.length cx) ∧ CellAt w8 (ady.add (i.toNat * 12)) y (.slice Ay y.f1.length cy) := ⟨HEx.out, HEy.out⟩
     refine norm_ (a' := ?_) ?_ ?_
     rotate_left
     ·simp only [putAll, Act.put, List.setIfInBounds_toArray, List.set_cons_zero, List.set_cons_succ]
      rfl
     refine one_ (i := 10) (N := none) #[true, true, true, true, true, true, true, true, true, true, true, false] rfl rfl (by kernel_rfl) (by decide) (fun K hK => ?_)
     refine store_blk_step (by rfl) (t := 75) (p := 6) (x := .tmp 23) rfl rfl (off := 0) (u := .agg #[.string x.f0, .slice Ax x.f1.length cx, .bool x.f2, .int .i64 x.f3.f0.f0, .int .i64 x.f3.f0.f1, .int .i64 x.f3.f0.f2, .int .i64 x.f3.f0.f3, .int .i64 x.f3.f1, .int .i64 x.f3.f2.f0, .int .i64 x.f3.f2.f1, .bool x.f3.f3, .string x.f3.f4]) (seg := _) [.string x.f0, .slice Ax x.f1.length cx, .bool x.f2, .int .i64 x.f3.f0.f0, .int .i64 x.f3.f0.f1, .int .i64 x.f3.f0.f2, .int .i64 x.f3.f0.f3, .int .i64 x.f3.f1, .int .i64 x.f3.f2.f0, .int .i64 x.f3.f2.f1, .bool x.f3.f3, .string x.f3.f4] rfl rfl BX.out rfl (by kernel_rfl) (Nat.le_of_ble_eq_true rfl) (List.forall_mem_cons.2 ⟨rfl, List.forall_mem_cons.2 ⟨rfl, List.forall_mem_cons.2 ⟨rfl, List.forall_mem_cons.2 ⟨rfl, List.forall_mem_cons.2 ⟨rfl, List.forall_mem_cons.2 ⟨rfl, List.forall_mem_cons.2 ⟨rfl, List.forall_mem_cons.2 ⟨rfl, List.forall_mem_cons.2 ⟨rfl, List.forall_mem_cons.2 ⟨rfl, List.forall_mem_cons.2 ⟨rfl, List.forall_mem_cons.2 ⟨rfl, (fun _ h => by cases h)⟩⟩⟩⟩⟩⟩⟩⟩⟩⟩⟩⟩) rfl ?_
     intro wS hS hgS
     have n0_ := Aside0.mk (below_only HB.out hgS (Nat.le_trans HB0.out Gga.out) HB.out.size)
     have n1_ := Aside0.mk (below_only HBR.out hgS Gga.out HBR.out.size)
     have n2_ := Aside0.mk (hS)
     have n3_ := Aside0.mk (blk_only BY.out hgS (Ne.symm NAB.out))
     have n4_ := Aside0.mk (HEx.out.only hgS (Nat.ne_of_lt (Nat.lt_of_lt_of_le HNx.out Gga.out)))
     have n5_ := Aside0.mk (HEy.out.only hgS (Nat.ne_of_lt (Nat.lt_of_lt_of_le HNy.out Gga.out)))
     clear HB
     clear HBR
     clear BX
     clear BY
     clear HEx
     clear HEy
     have HB := n0_
     have HBR := n1_
     have BX := n2_
     have BY := n3_
     have HEx := n4_
     have HEy := n5_
     clear n0_
     clear n1_
     clear n2_
     clear n3_
     clear n4_
     clear n5_
     clear hS hgS
     refine hK.out _ _ ⟨HEx.out, HEy.out⟩ (fun hHeld => ?_)
     clear hK K
     refine one_ (i := 11) (N := none) #[true, true, true, true, true, true, true, true, true, true, true, true] rfl rfl (by kernel_rfl) (by decide) (fun K hK => ?_)
     refine store_blk_step (by rfl) (t := 75) (p := 7) (x := .tmp 27) rfl rfl (off := 0) (u := .agg #[.string y.f0, .slice Ay y.f1.length cy, .bool y.f2, .int .i64 y.f3.f0.f0, .int .i64 y.f3.f0.f1, .int .i64 y.f3.f0.f2, .int .i64 y.f3.f0.f3, .int .i64 y.f3.f1, .int .i64 y.f3.f2.f0, .int .i64 y.f3.f2.f1, .bool y.f3.f3, .string y.f3.f4]) (seg := _) [.string y.f0, .slice Ay y.f1.length cy, .bool y.f2, .int .i64 y.f3.f0.f0, .int .i64 y.f3.f0.f1, .int .i64 y.f3.f0.f2, .int .i64 y.f3.f0.f3, .int .i64 y.f3.f1, .int .i64 y.f3.f2.f0, .int .i64 y.f3.f2.f1, .bool y.f3.f3, .string y.f3.f4] rfl rfl BY.out rfl (by kernel_rfl) (Nat.le_of_ble_eq_true rfl) (List.forall_mem_cons.2 ⟨rfl, List.forall_mem_cons.2 ⟨rfl, List.forall_mem_cons.2 ⟨rfl, List.forall_mem_cons.2 ⟨rfl, List.forall_mem_cons.2 ⟨rfl, List.forall_mem_cons.2 ⟨rfl, List.forall_mem_cons.2 ⟨rfl, List.forall_mem_cons.2 ⟨rfl, List.forall_mem_cons.2 ⟨rfl, List.forall_mem_cons.2 ⟨rfl, List.forall_mem_cons.2 ⟨rfl, List.forall_mem_cons.2 ⟨rfl, (fun _ h => by cases h)⟩⟩⟩⟩⟩⟩⟩⟩⟩⟩⟩⟩) rfl ?_
     intro wS hS hgS
     have n0_ := Aside0.mk (below_only HB.out hgS (Nat.le_trans HB0.out Ggb.out) HB.out.size)
     have n1_ := Aside0.mk (below_only HBR.out hgS Ggb.out HBR.out.size)
     have n2_ := Aside0.mk (hS)
     have n3_ := Aside0.mk (blk_only BX.out hgS NAB.out)
     have n4_ := Aside0.mk (HEx.out.only hgS (Nat.ne_of_lt (Nat.lt_of_lt_of_le HNx.out Ggb.out)))
     have n5_ := Aside0.mk (HEy.out.only hgS (Nat.ne_of_lt (Nat.lt_of_lt_of_le HNy.out Ggb.out)))
     clear HB
     clear HBR
     clear BY
     clear BX
     clear HEx
     clear HEy
     have HB := n0_
     have HBR := n1_
     have BY := n2_
     have BX := n3_
     have HEx := n4_
     have HEy := n5_
     clear n0_
     clear n1_
     clear n2_
     clear n3_
     clear n4_
     clear n5_
     clear hS hgS
     refine hK.out _ _ ⟨HEx.out, HEy.out⟩ (fun hHeld => ?_)
     clear hK K
     refine done_ (by kernel_rfl) ?_
     have bx_0 : wS.cell? ⟨ga, 0, none⟩ = some (.string x.f0) := (blk_cell BX.out 0).trans rfl
     have by_0 : wS.cell? ⟨gb, 0, none⟩ = some (.string y.f0) := (blk_cell BY.out 0).trans rfl
     have bx_1 : wS.cell? ⟨ga, 1, none⟩ = some (.slice Ax x.f1.length cx) := (blk_cell BX.out 1).trans rfl
     have by_1 : wS.cell? ⟨gb, 1, none⟩ = some (.slice Ay y.f1.length cy) := (blk_cell BY.out 1).trans rfl
     have bx_2 : wS.cell? ⟨ga, 2, none⟩ = some (.bool x.f2) := (blk_cell BX.out 2).trans rfl
     have by_2 : wS.cell? ⟨gb, 2, none⟩ = some (.bool y.f2) := (blk_cell BY.out 2).trans rfl
     have bx_3 : wS.cell? ⟨ga, 3, none⟩ = some (.int .i64 x.f3.f0.f0) := (blk_cell BX.out 3).trans rfl
     have by_3 : wS.cell? ⟨gb, 3, none⟩ = some (.int .i64 y.f3.f0.f0) := (blk_cell BY.out 3).trans rfl
     have bx_4 : wS.cell? ⟨ga, 4, none⟩ = some (.int .i64 x.f3.f0.f1) := (blk_cell BX.out 4).trans rfl
     have by_4 : wS.cell? ⟨gb, 4, none⟩ = some (.int .i64 y.f3.f0.f1) := (blk_cell BY.out 4).trans rfl
     have bx_5 : wS.cell? ⟨ga, 5, none⟩ = some (.int .i64 x.f3.f0.f2) := (blk_cell BX.out 5).trans rfl
     have by_5 : wS.cell? ⟨gb, 5, none⟩ = some (.int .i64 y.f3.f0.f2) := (blk_cell BY.out 5).trans rfl
     have bx_6 : wS.cell? ⟨ga, 6, none⟩ = some (.int .i64 x.f3.f0.f3) := (blk_cell BX.out 6).trans rfl
     have by_6 : wS.cell? ⟨gb, 6, none⟩ = some (.int .i64 y.f3.f0.f3) := (blk_cell BY.out 6).trans rfl
     have bx_7 : wS.cell? ⟨ga, 7, none⟩ = some (.int .i64 x.f3.f1) := (blk_cell BX.out 7).trans rfl
     have by_7 : wS.cell? ⟨gb, 7, none⟩ = some (.int .i64 y.f3.f1) := (blk_cell BY.out 7).trans rfl
     have bx_8 : wS.cell? ⟨ga, 8, none⟩ = some (.int .i64 x.f3.f2.f0) := (blk_cell BX.out 8).trans rfl
     have by_8 : wS.cell? ⟨gb, 8, none⟩ = some (.int .i64 y.f3.f2.f0) := (blk_cell BY.out 8).trans rfl
     have bx_9 : wS.cell? ⟨ga, 9, none⟩ = some (.int .i64 x.f3.f2.f1) := (blk_cell BX.out 9).trans rfl
     have by_9 : wS.cell? ⟨gb, 9, none⟩ = some (.int .i64 y.f3.f2.f1) := (blk_cell BY.out 9).trans rfl
     have bx_10 : wS.cell? ⟨ga, 10, none⟩ = some (.bool x.f3.f3) := (blk_cell BX.out 10).trans rfl
     have by_10 : wS.cell? ⟨gb, 10, none⟩ = some (.bool y.f3.f3) := (blk_cell BY.out 10).trans rfl
     have bx_11 : wS.cell? ⟨ga, 11, none⟩ = some (.string x.f3.f4) := (blk_cell BX.out 11).trans rfl
     have by_11 : wS.cell? ⟨gb, 11, none⟩ = some (.string y.f3.f4) := (blk_cell BY.out 11).trans rfl
     clear HEx HEy
     by_cases kf0 : (x.f0.toList == y.f0.toList) = true
     ·have n0 : (x.f0.toList != y.f0.toList) = false := by simpa using kf0
      by_cases kf1 : (x.f2 == y.f2) = true
      ·have n1 : (x.f2 != y.f2) = false := by simpa using kf1
       by_cases kf2 : eq73 x.f3 y.f3 = true
       ·have n2 := eq73n kf2
        have kf2' := Aside0.mk kf2
        clear kf2
        by_cases kf3 : x.f1.length = y.f1.length
        ·have n3 : (x.f1.length != y.f1.length) = false := bne_eq_false_iff_eq.mpr kf3
         have n3' : ((x.f1.length : Int) != (y.f1.length : Int)) = false := bne_eq_false_iff_eq.mpr (by omega)
         have K3 := Aside0.mk kf3
         clear kf3
         have HMv := Aside0.mk HCx.out.1.2.1
         have HBX := Aside0.mk (show Below wo.heap.size wo wS from HBR.out)
         go_wp2
         go_loopg [8] (x.f1.length + 1) (fun kp v8 wq => ∃ j : Int, v8 = .int .i64 j ∧ Aside0 (0 ≤ j ∧ j.toNat ≤ x.f1.length ∧ kp + j.toNat = x.f1.length + 1) ∧ Aside0 (x.f1.take j.toNat = y.f1.take j.toNat) ∧ ∃ m, wq = wS.drewN m)
         case atStart => exact ⟨0, by first | rfl | (simp; done), ⟨by omega, by simp, by simp⟩, ⟨rfl⟩, ⟨0, rfl⟩⟩
         case round =>
          obtain ⟨j, rfl, HJ, HV, ⟨m, rfl⟩⟩ := hrel
          cases gk with
          | zero => exact absurd HJ.out.2.2 (by have := HJ.out.2.1; omega)
          | succ k2 =>
           by_cases hj : j < (x.f1.length : Int)
           ·have q1 : 0 ≤ j := HJ.out.1
            have q2 : j < (y.f1.length : Int) := by have := K3.out; omega
            have d4 : decide (j < (x.f1.length : Int)) = true := decide_eq_true hj
            obtain ⟨u, hu⟩ : ∃ u, u = rd_T78 x.f1 j := ⟨_, rfl⟩
            obtain ⟨au, eu, u0, u1, u2, u3⟩ := at_T78 (Kd.C_below HCx.out.1 HBX.out) j q1 (by omega)
            cases eu
            rw [← hu] at u0 u1 u2 u3
            obtain ⟨v, hv⟩ : ∃ v, v = rd_T78 y.f1 j := ⟨_, rfl⟩
            obtain ⟨av, ev, v0, v1, v2, v3⟩ := at_T78 (Kd.C_below HCy.out.1 HBX.out) j q1 (by omega)
            cases ev
            rw [← hv] at v0 v1 v2 v3
            have HU := Aside0.mk hu
            have HVv := Aside0.mk hv
            clear hu hv
            have hsum2 : IntKind.i64.wrap (j + 1) = j + 1 := by rw [IntKind.wrap_i64]; have := HMv.out; omega
            have q3 : j + 1 ≤ 9223372036854775807 := by have := HMv.out; omega
            replace q1 := eq_true q1
            replace q2 := eq_true q2
            replace hj := eq_true hj
            by_cases huv : u = v
            ·have n5 := ne78b huv
             have HUV := Aside0.mk huv
             clear huv
             go_wp2
             repeat (go_quiet (fail); try go_wp2)
             go_roundg k2
             case measure => have := HJ.out.2.1; omega
             case rel => exact ⟨j + 1, rfl, ⟨by have := HJ.out.1; omega, by have := HJ.out.1; have := of_eq_true hj; omega, by have := HJ.out; omega⟩, ⟨by rw [show (j + 1).toNat = j.toNat + 1 by have := HJ.out.1; omega]; exact take_step K3.out (by have := HJ.out.1; have := of_eq_true hj; omega) HV.out z78 (HU.out.symm.trans (HUV.out.trans HVv.out))⟩, ⟨_, by first | rfl | (simp only [World.drewN_drewN]; rfl)⟩⟩
            ·have n5 := (ne78 u v).2 huv
             have He := Aside0.mk (eqb_false.2 (fun h : l0 = l1 => huv (by have hxy : x = y := HXx.out.trans ((by rw [h] : rd_T75 l0 i = rd_T75 l1 i).trans HXy.out.symm); rw [HU.out, HVv.out, hxy])))
             clear huv
             go_wp2
             repeat (go_quiet (fail); try go_wp2)
             go_ret
             exact ⟨by rw [He.out]; rfl, by repeat (first | exact HB.out | apply pw_below_drewN | apply below_drew)⟩
           ·have d4 : decide (j < (x.f1.length : Int)) = false := decide_eq_false hj
            have HXY := Aside0.mk (show x = y from eqb_true.1 ((cell_ext kf0 kf1 kf2'.out).trans (eqb_true.2 (take_all K3.out (by have := HJ.out.1; omega) HV.out))))
            go_wp2
            go_roundg k1
            case measure => have := HI.out.2.1; omega
            case rel => exact ⟨i + 1, rfl, ⟨by have := HI.out.1; omega, by have := HI.out.1; have := of_eq_true hi; omega, by have := HI.out; omega⟩, ⟨by rw [show (i + 1).toNat = i.toNat + 1 by have := HI.out.1; omega]; exact take_step HLE.out (by have := HI.out.1; have := of_eq_true hi; omega) HT.out z75 (HXx.out.symm.trans (HXY.out.trans HXy.out))⟩, ⟨by repeat (first | exact HB.out | apply pw_below_drewN | apply below_drew)⟩⟩
        ·have He := Aside0.mk (eqb_false.2 (fun h : l0 = l1 => kf3 (by have hxy : x = y := HXx.out.trans ((by rw [h] : rd_T75 l0 i = rd_T75 l1 i).trans HXy.out.symm); rw [hxy])))
         have n3 : (x.f1.length != y.f1.length) = true := bne_iff_ne.mpr kf3
         have n3' : ((x.f1.length : Int) != (y.f1.length : Int)) = true := bne_iff_ne.mpr (by omega)
         clear kf3
         go_wp2
         go_ret
         exact ⟨by rw [He.out]; rfl, HB.out⟩
       ·have He := Aside0.mk (eqb_false.2 (fun h : l0 = l1 => kf2 (by have hxy : x = y := HXx.out.trans ((by rw [h] : rd_T75 l0 i = rd_T75 l1 i).trans HXy.out.symm); rw [hxy]; exact (eq73_iff _ _).2 rfl)))
        have n2 := ne73 (Bool.eq_false_iff.mpr kf2)
        clear kf2
        go_wp2
        go_ret
        exact ⟨by rw [He.out]; rfl, HB.out⟩
      ·have He := Aside0.mk (eqb_false.2 (fun h : l0 = l1 => kf1 (by have hxy : x = y := HXx.out.trans ((by rw [h] : rd_T75 l0 i = rd_T75 l1 i).trans HXy.out.symm); rw [hxy]; exact beq_self_eq_true _)))
       replace kf1 := Bool.eq_false_iff.mpr kf1
       have n1 : (x.f2 != y.f2) = true := by simpa using kf1
       go_wp2
       go_ret
       exact ⟨by rw [He.out]; rfl, HB.out⟩
     ·have He := Aside0.mk (eqb_false.2 (fun h : l0 = l1 => kf0 (by have hxy : x = y := HXx.out.trans ((by rw [h] : rd_T75 l0 i = rd_T75 l1 i).trans HXy.out.symm); rw [hxy]; exact beq_self_eq_true _)))
      replace kf0 := Bool.eq_false_iff.mpr kf0
      have n0 : (x.f0.toList != y.f0.toList) = true := by simpa using kf0
      go_wp2
      go_ret
      exact ⟨by rw [He.out]; rfl, HB.out⟩
    ·have d3 : decide (i < (l0.length : Int)) = false := decide_eq_false hi
     have He := Aside0.mk (eqb_true.2 (take_all HLE.out (by have := HI.out.1; omega) HT.out))
     go_wp2
     go_ret
     exact ⟨by rw [He.out]; rfl, HB.out⟩
 ·have d1 : (l0.length != l1.length) = true := bne_iff_ne.mpr hl
  have d2 : ((l0.length : Int) != (l1.length : Int)) = true := bne_iff_ne.mpr (by omega)
  have He := Aside0.mk (eqb_false.2 (fun h : l0 = l1 => hl (by rw [h])))
  clear hl
  go_enter Try.func38, Try.ntmps38
  go_wp2
  go_ret
  exact ⟨by rw [He.out]; rfl, Below.refl _ _⟩
theorem outsR_loop (x0 x1 : List S83) (hl : x1.length = x0.length) (hs : x0.length ≤ 9223372036854775807) (d : Nat) : ∀ (k i : Nat), i + d = x0.length → d < k → antipoderef14_sameOutcomes.l0 k x0 x1 (i : Int) = some (eqb (x0.drop i) (x1.drop i)) := by
 induction d with
 | zero =>
  intro k i hi hk
  obtain ⟨k, rfl⟩ : ∃ m, k = m + 1 := ⟨k - 1, by omega⟩
  simp only [antipoderef14_sameOutcomes.l0]
  rw [if_neg (by omega), List.drop_of_length_le (by omega), List.drop_of_length_le (by omega), eqb_self]
 | succ d ih =>
  intro k i hi hk
  obtain ⟨k, rfl⟩ : ∃ m, k = m + 1 := ⟨k - 1, by omega⟩
  have h0 : i < x0.length := by omega
  have h1 : i < x1.length := by omega
  have e0 : rd_T83 x0 (i : Int) = x0[i] := by unfold rd_T83; rw [Int.toNat_natCast, List.getD_eq_getElem?_getD, List.getElem?_eq_getElem h0]; rfl
  have e1 : rd_T83 x1 (i : Int) = x1[i] := by unfold rd_T83; rw [Int.toNat_natCast, List.getD_eq_getElem?_getD, List.getElem?_eq_getElem h1]; rfl
  simp only [antipoderef14_sameOutcomes.l0]
  rw [if_pos (by omega), if_pos (by omega), if_pos (by omega), e0, e1, List.drop_eq_getElem_cons h0, List.drop_eq_getElem_cons h1, eqb_cons]
  by_cases c : x0[i] = x1[i]
  ·rw [if_neg (fun h => (ne83 _ _).1 h c), c, eqb_self, Bool.true_and, w64_id (by omega) (by omega)]
   exact ih k (i + 1) (by omega) (by omega)
  ·rw [if_pos ((ne83 _ _).2 c), eqb_false.2 c, Bool.false_and]
theorem outsR_eq (l0 l1 : List S83) (hs : l0.length ≤ 9223372036854775807) : antipoderef14_sameOutcomes.f (l0.length + 1) l0 l1 = some (eqb l0 l1) := by
 unfold antipoderef14_sameOutcomes.f
 by_cases c : l0.length = l1.length
 ·rw [if_pos (by omega)]
  have h := outsR_loop l0 l1 c.symm hs l0.length (l0.length + 1) 0 (by omega) (by omega)
  rw [List.drop_zero, List.drop_zero] at h
  exact h
 ·rw [if_neg (by omega), eqb_false.2 (fun h => c (by rw [h]))]
theorem outsR_same {A0 : Option Addr} {c0 : Nat} {l0 : List S83} {A1 : Option Addr} {c1 : Nat} {l1 : List S83} {w : World} (h0 : Kd.C k83 w A0 l0.length l0) (hc0 : l0.length ≤ c0) (h1 : Kd.C k83 w A1 l1.length l1) (hc1 : l1.length ≤ c1) :
  Calls Try.prog 39 #[.slice A0 l0.length c0, .slice A1 l1.length c1] w fun e w' => e = .returned (.bool (eqb l0 l1)) ∧ Drawn0 w w' := antipoderef14_sameOutcomes.calls (l0.length + 1) A0 c0 l0 A1 c1 l1 _ w h0 hc0 h1 hc1 (outsR_eq l0 l1 h0.2.1)
set_option maxHeartbeats 4000000 in
set_option maxRecDepth 100000 in
theorem samePartR_calls_no0 {A1 A2 A3 B1 B2 B3 : Option Addr} {a1 a2 a3 b1 b2 b3 : Nat} (p q : PartV) (w : World) (hp1 : Kd.C k75 w A1 p.cells.length p.cells) (kp1 : p.cells.length ≤ a1) (hp2 : Kd.C k83 w A2 p.records.length p.records) (kp2 : p.records.length ≤ a2) (hp3 : Kd.C k83 w A3 p.done.length p.done) (kp3 : p.done.length ≤ a3) (hq1 : Kd.C k75 w B1 q.cells.length q.cells) (kq1 : q.cells.length ≤ b1) (hq2 : Kd.C k83 w B2 q.records.length q.records) (kq2 : q.records.length ≤ b2) (hq3 : Kd.C k83 w B3 q.done.length q.done) (kq3 : q.done.length ≤ b3) (k0 : (p.epoch == q.epoch) = false) (n0 : (p.epoch != q.epoch) = true) (He : Aside0 (eqb p q = false)) :
  Calls Try.prog 13 #[partV p (.slice A1 p.cells.length a1) (.slice A2 p.records.length a2) (.slice A3 p.done.length a3), partV q (.slice B1 q.cells.length b1) (.slice B2 q.records.length b2) (.slice B3 q.done.length b3)] w (fun e w' => e = .returned (.bool (eqb p q)) ∧ Below w.heap.size w w') := by
 have hu33 := Try.underlying33
 have hu25 := Try.underlying25
 have Hp1 := Aside0.mk (And.intro hp1 kp1)
 have Hp2 := Aside0.mk (And.intro hp2 kp2)
 have Hp3 := Aside0.mk (And.intro hp3 kp3)
 have Hq1 := Aside0.mk (And.intro hq1 kq1)
 have Hq2 := Aside0.mk (And.intro hq2 kq2)
 have Hq3 := Aside0.mk (And.intro hq3 kq3)
 clear hp1 kp1 hp2 kp2 hp3 kp3 hq1 kq1 hq2 kq2 hq3 kq3
 unfold partV
 go_enter Try.func13, Try.ntmps13
 go_wp2_with (first | ((with_reducible refine gate_dst (N := 2) rfl ?_); refine box_event ?hg (N := 2) ?hd (cs := #[.int .i64 p.epoch, .int .i64 p.holder, .int .i64 p.floor.f0, .int .i64 p.floor.f1, .int .i64 p.closed, .int .i64 p.low, .slice A1 p.cells.length a1, .slice A2 p.records.length a2, .slice A3 p.done.length a3]) (t := 33) ?hr ?_; (case hd => rfl); (case hg => rfl); (case hr => first | (go_simp; done) | (go_simp; rfl)); intro ga hg wa hbox hb; have BX := Aside0.mk hbox; have HB := Aside0.mk hb; clear hg hbox hb) | ((with_reducible refine gate_dst (N := 3) rfl ?_); refine box_event ?hg (N := 3) ?hd (cs := #[.int .i64 q.epoch, .int .i64 q.holder, .int .i64 q.floor.f0, .int .i64 q.floor.f1, .int .i64 q.closed, .int .i64 q.low, .slice B1 q.cells.length b1, .slice B2 q.records.length b2, .slice B3 q.done.length b3]) (t := 33) ?hr ?_; (case hd => rfl); (case hg => rfl); (case hr => first | (go_simp; done) | (go_simp; rfl)); intro gb hg wb hbox hb; have BY := Aside0.mk hbox; have BXn := Aside0.mk (blk_below BX.out hb); have HBn := Aside0.mk (below_step HB.out hb); clear BX HB; have BX := BXn; have HB := HBn; clear BXn HBn hg hbox hb; have bx_0 : wb.cell? ⟨ga, 0, none⟩ = some (.int .i64 p.epoch) := (blk_cell BX.out 0).trans rfl; have by_0 : wb.cell? ⟨gb, 0, none⟩ = some (.int .i64 q.epoch) := (blk_cell BY.out 0).trans rfl))
 go_ret
 exact ⟨by rw [He.out]; rfl, HB.out⟩
set_option maxHeartbeats 4000000 in
set_option maxRecDepth 100000 in
theorem samePartR_calls_no1 {A1 A2 A3 B1 B2 B3 : Option Addr} {a1 a2 a3 b1 b2 b3 : Nat} (p q : PartV) (w : World) (hp1 : Kd.C k75 w A1 p.cells.length p.cells) (kp1 : p.cells.length ≤ a1) (hp2 : Kd.C k83 w A2 p.records.length p.records) (kp2 : p.records.length ≤ a2) (hp3 : Kd.C k83 w A3 p.done.length p.done) (kp3 : p.done.length ≤ a3) (hq1 : Kd.C k75 w B1 q.cells.length q.cells) (kq1 : q.cells.length ≤ b1) (hq2 : Kd.C k83 w B2 q.records.length q.records) (kq2 : q.records.length ≤ b2) (hq3 : Kd.C k83 w B3 q.done.length q.done) (kq3 : q.done.length ≤ b3) (k0 : (p.epoch == q.epoch) = true) (n0 : (p.epoch != q.epoch) = false) (k1 : (p.holder == q.holder) = false) (n1 : (p.holder != q.holder) = true) (He : Aside0 (eqb p q = false)) :
  Calls Try.prog 13 #[partV p (.slice A1 p.cells.length a1) (.slice A2 p.records.length a2) (.slice A3 p.done.length a3), partV q (.slice B1 q.cells.length b1) (.slice B2 q.records.length b2) (.slice B3 q.done.length b3)] w (fun e w' => e = .returned (.bool (eqb p q)) ∧ Below w.heap.size w w') := by
 have hu33 := Try.underlying33
 have hu25 := Try.underlying25
 have Hp1 := Aside0.mk (And.intro hp1 kp1)
 have Hp2 := Aside0.mk (And.intro hp2 kp2)
 have Hp3 := Aside0.mk (And.intro hp3 kp3)
 have Hq1 := Aside0.mk (And.intro hq1 kq1)
 have Hq2 := Aside0.mk (And.intro hq2 kq2)
 have Hq3 := Aside0.mk (And.intro hq3 kq3)
 clear hp1 kp1 hp2 kp2 hp3 kp3 hq1 kq1 hq2 kq2 hq3 kq3
 unfold partV
 go_enter Try.func13, Try.ntmps13
 go_wp2_with (first | ((with_reducible refine gate_dst (N := 2) rfl ?_); refine box_event ?hg (N := 2) ?hd (cs := #[.int .i64 p.epoch, .int .i64 p.holder, .int .i64 p.floor.f0, .int .i64 p.floor.f1, .int .i64 p.closed, .int .i64 p.low, .slice A1 p.cells.length a1, .slice A2 p.records.length a2, .slice A3 p.done.length a3]) (t := 33) ?hr ?_; (case hd => rfl); (case hg => rfl); (case hr => first | (go_simp; done) | (go_simp; rfl)); intro ga hg wa hbox hb; have BX := Aside0.mk hbox; have HB := Aside0.mk hb; clear hg hbox hb) | ((with_reducible refine gate_dst (N := 3) rfl ?_); refine box_event ?hg (N := 3) ?hd (cs := #[.int .i64 q.epoch, .int .i64 q.holder, .int .i64 q.floor.f0, .int .i64 q.floor.f1, .int .i64 q.closed, .int .i64 q.low, .slice B1 q.cells.length b1, .slice B2 q.records.length b2, .slice B3 q.done.length b3]) (t := 33) ?hr ?_; (case hd => rfl); (case hg => rfl); (case hr => first | (go_simp; done) | (go_simp; rfl)); intro gb hg wb hbox hb; have BY := Aside0.mk hbox; have BXn := Aside0.mk (blk_below BX.out hb); have HBn := Aside0.mk (below_step HB.out hb); clear BX HB; have BX := BXn; have HB := HBn; clear BXn HBn hg hbox hb; have bx_0 : wb.cell? ⟨ga, 0, none⟩ = some (.int .i64 p.epoch) := (blk_cell BX.out 0).trans rfl; have by_0 : wb.cell? ⟨gb, 0, none⟩ = some (.int .i64 q.epoch) := (blk_cell BY.out 0).trans rfl; have bx_1 : wb.cell? ⟨ga, 1, none⟩ = some (.int .i64 p.holder) := (blk_cell BX.out 1).trans rfl; have by_1 : wb.cell? ⟨gb, 1, none⟩ = some (.int .i64 q.holder) := (blk_cell BY.out 1).trans rfl))
 go_ret
 exact ⟨by rw [He.out]; rfl, HB.out⟩
set_option maxHeartbeats 4000000 in
set_option maxRecDepth 100000 in
theorem samePartR_calls_no2 {A1 A2 A3 B1 B2 B3 : Option Addr} {a1 a2 a3 b1 b2 b3 : Nat} (p q : PartV) (w : World) (hp1 : Kd.C k75 w A1 p.cells.length p.cells) (kp1 : p.cells.length ≤ a1) (hp2 : Kd.C k83 w A2 p.records.length p.records) (kp2 : p.records.length ≤ a2) (hp3 : Kd.C k83 w A3 p.done.length p.done) (kp3 : p.done.length ≤ a3) (hq1 : Kd.C k75 w B1 q.cells.length q.cells) (kq1 : q.cells.length ≤ b1) (hq2 : Kd.C k83 w B2 q.records.length q.records) (kq2 : q.records.length ≤ b2) (hq3 : Kd.C k83 w B3 q.done.length q.done) (kq3 : q.done.length ≤ b3) (k0 : (p.epoch == q.epoch) = true) (n0 : (p.epoch != q.epoch) = false) (k1 : (p.holder == q.holder) = true) (n1 : (p.holder != q.holder) = false) (k2 : (p.floor.f0 == q.floor.f0 && (p.floor.f1 == q.floor.f1)) = false) (n2 : (!(p.floor.f0 == q.floor.f0) || (!(p.floor.f1 == q.floor.f1))) = true) (He : Aside0 (eqb p q = false)) :
  Calls Try.prog 13 #[partV p (.slice A1 p.cells.length a1) (.slice A2 p.records.length a2) (.slice A3 p.done.length a3), partV q (.slice B1 q.cells.length b1) (.slice B2 q.records.length b2) (.slice B3 q.done.length b3)] w (fun e w' => e = .returned (.bool (eqb p q)) ∧ Below w.heap.size w w') := by
 have hu33 := Try.underlying33
 have hu25 := Try.underlying25
 have Hp1 := Aside0.mk (And.intro hp1 kp1)
 have Hp2 := Aside0.mk (And.intro hp2 kp2)
 have Hp3 := Aside0.mk (And.intro hp3 kp3)
 have Hq1 := Aside0.mk (And.intro hq1 kq1)
 have Hq2 := Aside0.mk (And.intro hq2 kq2)
 have Hq3 := Aside0.mk (And.intro hq3 kq3)
 clear hp1 kp1 hp2 kp2 hp3 kp3 hq1 kq1 hq2 kq2 hq3 kq3
 unfold partV
 go_enter Try.func13, Try.ntmps13
 go_wp2_with (first | ((with_reducible refine gate_dst (N := 2) rfl ?_); refine box_event ?hg (N := 2) ?hd (cs := #[.int .i64 p.epoch, .int .i64 p.holder, .int .i64 p.floor.f0, .int .i64 p.floor.f1, .int .i64 p.closed, .int .i64 p.low, .slice A1 p.cells.length a1, .slice A2 p.records.length a2, .slice A3 p.done.length a3]) (t := 33) ?hr ?_; (case hd => rfl); (case hg => rfl); (case hr => first | (go_simp; done) | (go_simp; rfl)); intro ga hg wa hbox hb; have BX := Aside0.mk hbox; have HB := Aside0.mk hb; clear hg hbox hb) | ((with_reducible refine gate_dst (N := 3) rfl ?_); refine box_event ?hg (N := 3) ?hd (cs := #[.int .i64 q.epoch, .int .i64 q.holder, .int .i64 q.floor.f0, .int .i64 q.floor.f1, .int .i64 q.closed, .int .i64 q.low, .slice B1 q.cells.length b1, .slice B2 q.records.length b2, .slice B3 q.done.length b3]) (t := 33) ?hr ?_; (case hd => rfl); (case hg => rfl); (case hr => first | (go_simp; done) | (go_simp; rfl)); intro gb hg wb hbox hb; have BY := Aside0.mk hbox; have BXn := Aside0.mk (blk_below BX.out hb); have HBn := Aside0.mk (below_step HB.out hb); clear BX HB; have BX := BXn; have HB := HBn; clear BXn HBn hg hbox hb; have bx_0 : wb.cell? ⟨ga, 0, none⟩ = some (.int .i64 p.epoch) := (blk_cell BX.out 0).trans rfl; have by_0 : wb.cell? ⟨gb, 0, none⟩ = some (.int .i64 q.epoch) := (blk_cell BY.out 0).trans rfl; have bx_1 : wb.cell? ⟨ga, 1, none⟩ = some (.int .i64 p.holder) := (blk_cell BX.out 1).trans rfl; have by_1 : wb.cell? ⟨gb, 1, none⟩ = some (.int .i64 q.holder) := (blk_cell BY.out 1).trans rfl; have bx_2 : wb.cell? ⟨ga, 2, none⟩ = some (.int .i64 p.floor.f0) := (blk_cell BX.out 2).trans rfl; have by_2 : wb.cell? ⟨gb, 2, none⟩ = some (.int .i64 q.floor.f0) := (blk_cell BY.out 2).trans rfl; have bx_3 : wb.cell? ⟨ga, 3, none⟩ = some (.int .i64 p.floor.f1) := (blk_cell BX.out 3).trans rfl; have by_3 : wb.cell? ⟨gb, 3, none⟩ = some (.int .i64 q.floor.f1) := (blk_cell BY.out 3).trans rfl))
 go_ret
 exact ⟨by rw [He.out]; rfl, HB.out⟩
set_option maxHeartbeats 4000000 in
set_option maxRecDepth 100000 in
theorem samePartR_calls_no3 {A1 A2 A3 B1 B2 B3 : Option Addr} {a1 a2 a3 b1 b2 b3 : Nat} (p q : PartV) (w : World) (hp1 : Kd.C k75 w A1 p.cells.length p.cells) (kp1 : p.cells.length ≤ a1) (hp2 : Kd.C k83 w A2 p.records.length p.records) (kp2 : p.records.length ≤ a2) (hp3 : Kd.C k83 w A3 p.done.length p.done) (kp3 : p.done.length ≤ a3) (hq1 : Kd.C k75 w B1 q.cells.length q.cells) (kq1 : q.cells.length ≤ b1) (hq2 : Kd.C k83 w B2 q.records.length q.records) (kq2 : q.records.length ≤ b2) (hq3 : Kd.C k83 w B3 q.done.length q.done) (kq3 : q.done.length ≤ b3) (k0 : (p.epoch == q.epoch) = true) (n0 : (p.epoch != q.epoch) = false) (k1 : (p.holder == q.holder) = true) (n1 : (p.holder != q.holder) = false) (k2 : (p.floor.f0 == q.floor.f0 && (p.floor.f1 == q.floor.f1)) = true) (n2 : (!(p.floor.f0 == q.floor.f0) || (!(p.floor.f1 == q.floor.f1))) = false) (k3 : (p.closed == q.closed) = false) (n3 : (p.closed != q.closed) = true) (He : Aside0 (eqb p q = false)) :
  Calls Try.prog 13 #[partV p (.slice A1 p.cells.length a1) (.slice A2 p.records.length a2) (.slice A3 p.done.length a3), partV q (.slice B1 q.cells.length b1) (.slice B2 q.records.length b2) (.slice B3 q.done.length b3)] w (fun e w' => e = .returned (.bool (eqb p q)) ∧ Below w.heap.size w w') := by
 have hu33 := Try.underlying33
 have hu25 := Try.underlying25
 have Hp1 := Aside0.mk (And.intro hp1 kp1)
 have Hp2 := Aside0.mk (And.intro hp2 kp2)
 have Hp3 := Aside0.mk (And.intro hp3 kp3)
 have Hq1 := Aside0.mk (And.intro hq1 kq1)
 have Hq2 := Aside0.mk (And.intro hq2 kq2)
 have Hq3 := Aside0.mk (And.intro hq3 kq3)
 clear hp1 kp1 hp2 kp2 hp3 kp3 hq1 kq1 hq2 kq2 hq3 kq3
 unfold partV
 go_enter Try.func13, Try.ntmps13
 go_wp2_with (first | ((with_reducible refine gate_dst (N := 2) rfl ?_); refine box_event ?hg (N := 2) ?hd (cs := #[.int .i64 p.epoch, .int .i64 p.holder, .int .i64 p.floor.f0, .int .i64 p.floor.f1, .int .i64 p.closed, .int .i64 p.low, .slice A1 p.cells.length a1, .slice A2 p.records.length a2, .slice A3 p.done.length a3]) (t := 33) ?hr ?_; (case hd => rfl); (case hg => rfl); (case hr => first | (go_simp; done) | (go_simp; rfl)); intro ga hg wa hbox hb; have BX := Aside0.mk hbox; have HB := Aside0.mk hb; clear hg hbox hb) | ((with_reducible refine gate_dst (N := 3) rfl ?_); refine box_event ?hg (N := 3) ?hd (cs := #[.int .i64 q.epoch, .int .i64 q.holder, .int .i64 q.floor.f0, .int .i64 q.floor.f1, .int .i64 q.closed, .int .i64 q.low, .slice B1 q.cells.length b1, .slice B2 q.records.length b2, .slice B3 q.done.length b3]) (t := 33) ?hr ?_; (case hd => rfl); (case hg => rfl); (case hr => first | (go_simp; done) | (go_simp; rfl)); intro gb hg wb hbox hb; have BY := Aside0.mk hbox; have BXn := Aside0.mk (blk_below BX.out hb); have HBn := Aside0.mk (below_step HB.out hb); clear BX HB; have BX := BXn; have HB := HBn; clear BXn HBn hg hbox hb; have bx_0 : wb.cell? ⟨ga, 0, none⟩ = some (.int .i64 p.epoch) := (blk_cell BX.out 0).trans rfl; have by_0 : wb.cell? ⟨gb, 0, none⟩ = some (.int .i64 q.epoch) := (blk_cell BY.out 0).trans rfl; have bx_1 : wb.cell? ⟨ga, 1, none⟩ = some (.int .i64 p.holder) := (blk_cell BX.out 1).trans rfl; have by_1 : wb.cell? ⟨gb, 1, none⟩ = some (.int .i64 q.holder) := (blk_cell BY.out 1).trans rfl; have bx_2 : wb.cell? ⟨ga, 2, none⟩ = some (.int .i64 p.floor.f0) := (blk_cell BX.out 2).trans rfl; have by_2 : wb.cell? ⟨gb, 2, none⟩ = some (.int .i64 q.floor.f0) := (blk_cell BY.out 2).trans rfl; have bx_3 : wb.cell? ⟨ga, 3, none⟩ = some (.int .i64 p.floor.f1) := (blk_cell BX.out 3).trans rfl; have by_3 : wb.cell? ⟨gb, 3, none⟩ = some (.int .i64 q.floor.f1) := (blk_cell BY.out 3).trans rfl; have bx_4 : wb.cell? ⟨ga, 4, none⟩ = some (.int .i64 p.closed) := (blk_cell BX.out 4).trans rfl; have by_4 : wb.cell? ⟨gb, 4, none⟩ = some (.int .i64 q.closed) := (blk_cell BY.out 4).trans rfl))
 go_ret
 exact ⟨by rw [He.out]; rfl, HB.out⟩
set_option maxHeartbeats 4000000 in
set_option maxRecDepth 100000 in
theorem samePartR_calls_no4 {A1 A2 A3 B1 B2 B3 : Option Addr} {a1 a2 a3 b1 b2 b3 : Nat} (p q : PartV) (w : World) (hp1 : Kd.C k75 w A1 p.cells.length p.cells) (kp1 : p.cells.length ≤ a1) (hp2 : Kd.C k83 w A2 p.records.length p.records) (kp2 : p.records.length ≤ a2) (hp3 : Kd.C k83 w A3 p.done.length p.done) (kp3 : p.done.length ≤ a3) (hq1 : Kd.C k75 w B1 q.cells.length q.cells) (kq1 : q.cells.length ≤ b1) (hq2 : Kd.C k83 w B2 q.records.length q.records) (kq2 : q.records.length ≤ b2) (hq3 : Kd.C k83 w B3 q.done.length q.done) (kq3 : q.done.length ≤ b3) (k0 : (p.epoch == q.epoch) = true) (n0 : (p.epoch != q.epoch) = false) (k1 : (p.holder == q.holder) = true) (n1 : (p.holder != q.holder) = false) (k2 : (p.floor.f0 == q.floor.f0 && (p.floor.f1 == q.floor.f1)) = true) (n2 : (!(p.floor.f0 == q.floor.f0) || (!(p.floor.f1 == q.floor.f1))) = false) (k3 : (p.closed == q.closed) = true) (n3 : (p.closed != q.closed) = false) (k4 : (p.low == q.low) = false) (n4 : (p.low != q.low) = true) (He : Aside0 (eqb p q = false)) :
  Calls Try.prog 13 #[partV p (.slice A1 p.cells.length a1) (.slice A2 p.records.length a2) (.slice A3 p.done.length a3), partV q (.slice B1 q.cells.length b1) (.slice B2 q.records.length b2) (.slice B3 q.done.length b3)] w (fun e w' => e = .returned (.bool (eqb p q)) ∧ Below w.heap.size w w') := by
 have hu33 := Try.underlying33
 have hu25 := Try.underlying25
 have Hp1 := Aside0.mk (And.intro hp1 kp1)
 have Hp2 := Aside0.mk (And.intro hp2 kp2)
 have Hp3 := Aside0.mk (And.intro hp3 kp3)
 have Hq1 := Aside0.mk (And.intro hq1 kq1)
 have Hq2 := Aside0.mk (And.intro hq2 kq2)
 have Hq3 := Aside0.mk (And.intro hq3 kq3)
 clear hp1 kp1 hp2 kp2 hp3 kp3 hq1 kq1 hq2 kq2 hq3 kq3
 unfold partV
 go_enter Try.func13, Try.ntmps13
 go_wp2_with (first | ((with_reducible refine gate_dst (N := 2) rfl ?_); refine box_event ?hg (N := 2) ?hd (cs := #[.int .i64 p.epoch, .int .i64 p.holder, .int .i64 p.floor.f0, .int .i64 p.floor.f1, .int .i64 p.closed, .int .i64 p.low, .slice A1 p.cells.length a1, .slice A2 p.records.length a2, .slice A3 p.done.length a3]) (t := 33) ?hr ?_; (case hd => rfl); (case hg => rfl); (case hr => first | (go_simp; done) | (go_simp; rfl)); intro ga hg wa hbox hb; have BX := Aside0.mk hbox; have HB := Aside0.mk hb; clear hg hbox hb) | ((with_reducible refine gate_dst (N := 3) rfl ?_); refine box_event ?hg (N := 3) ?hd (cs := #[.int .i64 q.epoch, .int .i64 q.holder, .int .i64 q.floor.f0, .int .i64 q.floor.f1, .int .i64 q.closed, .int .i64 q.low, .slice B1 q.cells.length b1, .slice B2 q.records.length b2, .slice B3 q.done.length b3]) (t := 33) ?hr ?_; (case hd => rfl); (case hg => rfl); (case hr => first | (go_simp; done) | (go_simp; rfl)); intro gb hg wb hbox hb; have BY := Aside0.mk hbox; have BXn := Aside0.mk (blk_below BX.out hb); have HBn := Aside0.mk (below_step HB.out hb); clear BX HB; have BX := BXn; have HB := HBn; clear BXn HBn hg hbox hb; have bx_0 : wb.cell? ⟨ga, 0, none⟩ = some (.int .i64 p.epoch) := (blk_cell BX.out 0).trans rfl; have by_0 : wb.cell? ⟨gb, 0, none⟩ = some (.int .i64 q.epoch) := (blk_cell BY.out 0).trans rfl; have bx_1 : wb.cell? ⟨ga, 1, none⟩ = some (.int .i64 p.holder) := (blk_cell BX.out 1).trans rfl; have by_1 : wb.cell? ⟨gb, 1, none⟩ = some (.int .i64 q.holder) := (blk_cell BY.out 1).trans rfl; have bx_2 : wb.cell? ⟨ga, 2, none⟩ = some (.int .i64 p.floor.f0) := (blk_cell BX.out 2).trans rfl; have by_2 : wb.cell? ⟨gb, 2, none⟩ = some (.int .i64 q.floor.f0) := (blk_cell BY.out 2).trans rfl; have bx_3 : wb.cell? ⟨ga, 3, none⟩ = some (.int .i64 p.floor.f1) := (blk_cell BX.out 3).trans rfl; have by_3 : wb.cell? ⟨gb, 3, none⟩ = some (.int .i64 q.floor.f1) := (blk_cell BY.out 3).trans rfl; have bx_4 : wb.cell? ⟨ga, 4, none⟩ = some (.int .i64 p.closed) := (blk_cell BX.out 4).trans rfl; have by_4 : wb.cell? ⟨gb, 4, none⟩ = some (.int .i64 q.closed) := (blk_cell BY.out 4).trans rfl; have bx_5 : wb.cell? ⟨ga, 5, none⟩ = some (.int .i64 p.low) := (blk_cell BX.out 5).trans rfl; have by_5 : wb.cell? ⟨gb, 5, none⟩ = some (.int .i64 q.low) := (blk_cell BY.out 5).trans rfl))
 go_ret
 exact ⟨by rw [He.out]; rfl, HB.out⟩
set_option maxHeartbeats 4000000 in
set_option maxRecDepth 100000 in
theorem samePartR_calls_c {A1 A2 A3 B1 B2 B3 : Option Addr} {a1 a2 a3 b1 b2 b3 : Nat} (p q : PartV) (w : World) (hp1 : Kd.C k75 w A1 p.cells.length p.cells) (kp1 : p.cells.length ≤ a1) (hp2 : Kd.C k83 w A2 p.records.length p.records) (kp2 : p.records.length ≤ a2) (hp3 : Kd.C k83 w A3 p.done.length p.done) (kp3 : p.done.length ≤ a3) (hq1 : Kd.C k75 w B1 q.cells.length q.cells) (kq1 : q.cells.length ≤ b1) (hq2 : Kd.C k83 w B2 q.records.length q.records) (kq2 : q.records.length ≤ b2) (hq3 : Kd.C k83 w B3 q.done.length q.done) (kq3 : q.done.length ≤ b3) (k0 : (p.epoch == q.epoch) = true) (n0 : (p.epoch != q.epoch) = false) (k1 : (p.holder == q.holder) = true) (n1 : (p.holder != q.holder) = false) (k2 : (p.floor.f0 == q.floor.f0 && (p.floor.f1 == q.floor.f1)) = true) (n2 : (!(p.floor.f0 == q.floor.f0) || (!(p.floor.f1 == q.floor.f1))) = false) (k3 : (p.closed == q.closed) = true) (n3 : (p.closed != q.closed) = false) (k4 : (p.low == q.low) = true) (n4 : (p.low != q.low) = false) (h5 : eqb p.cells q.cells = false) (He : Aside0 (eqb p q = false)) :
  Calls Try.prog 13 #[partV p (.slice A1 p.cells.length a1) (.slice A2 p.records.length a2) (.slice A3 p.done.length a3), partV q (.slice B1 q.cells.length b1) (.slice B2 q.records.length b2) (.slice B3 q.done.length b3)] w (fun e w' => e = .returned (.bool (eqb p q)) ∧ Below w.heap.size w w') := by
 have hu33 := Try.underlying33
 have hu25 := Try.underlying25
 have Hp1 := Aside0.mk (And.intro hp1 kp1)
 have Hp2 := Aside0.mk (And.intro hp2 kp2)
 have Hp3 := Aside0.mk (And.intro hp3 kp3)
 have Hq1 := Aside0.mk (And.intro hq1 kq1)
 have Hq2 := Aside0.mk (And.intro hq2 kq2)
 have Hq3 := Aside0.mk (And.intro hq3 kq3)
 clear hp1 kp1 hp2 kp2 hp3 kp3 hq1 kq1 hq2 kq2 hq3 kq3
 unfold partV
 go_enter Try.func13, Try.ntmps13
 go_wp2_with (first | ((with_reducible refine gate_dst (N := 2) rfl ?_); refine box_event ?hg (N := 2) ?hd (cs := #[.int .i64 p.epoch, .int .i64 p.holder, .int .i64 p.floor.f0, .int .i64 p.floor.f1, .int .i64 p.closed, .int .i64 p.low, .slice A1 p.cells.length a1, .slice A2 p.records.length a2, .slice A3 p.done.length a3]) (t := 33) ?hr ?_; (case hd => rfl); (case hg => rfl); (case hr => first | (go_simp; done) | (go_simp; rfl)); intro ga hg wa hbox hb; have BX := Aside0.mk hbox; have HB := Aside0.mk hb; clear hg hbox hb) | ((with_reducible refine gate_dst (N := 3) rfl ?_); refine box_event ?hg (N := 3) ?hd (cs := #[.int .i64 q.epoch, .int .i64 q.holder, .int .i64 q.floor.f0, .int .i64 q.floor.f1, .int .i64 q.closed, .int .i64 q.low, .slice B1 q.cells.length b1, .slice B2 q.records.length b2, .slice B3 q.done.length b3]) (t := 33) ?hr ?_; (case hd => rfl); (case hg => rfl); (case hr => first | (go_simp; done) | (go_simp; rfl)); intro gb hg wb hbox hb; have BY := Aside0.mk hbox; have BXn := Aside0.mk (blk_below BX.out hb); have HBn := Aside0.mk (below_step HB.out hb); clear BX HB; have BX := BXn; have HB := HBn; clear BXn HBn hg hbox hb; have bx_0 : wb.cell? ⟨ga, 0, none⟩ = some (.int .i64 p.epoch) := (blk_cell BX.out 0).trans rfl; have by_0 : wb.cell? ⟨gb, 0, none⟩ = some (.int .i64 q.epoch) := (blk_cell BY.out 0).trans rfl; have bx_1 : wb.cell? ⟨ga, 1, none⟩ = some (.int .i64 p.holder) := (blk_cell BX.out 1).trans rfl; have by_1 : wb.cell? ⟨gb, 1, none⟩ = some (.int .i64 q.holder) := (blk_cell BY.out 1).trans rfl; have bx_2 : wb.cell? ⟨ga, 2, none⟩ = some (.int .i64 p.floor.f0) := (blk_cell BX.out 2).trans rfl; have by_2 : wb.cell? ⟨gb, 2, none⟩ = some (.int .i64 q.floor.f0) := (blk_cell BY.out 2).trans rfl; have bx_3 : wb.cell? ⟨ga, 3, none⟩ = some (.int .i64 p.floor.f1) := (blk_cell BX.out 3).trans rfl; have by_3 : wb.cell? ⟨gb, 3, none⟩ = some (.int .i64 q.floor.f1) := (blk_cell BY.out 3).trans rfl; have bx_4 : wb.cell? ⟨ga, 4, none⟩ = some (.int .i64 p.closed) := (blk_cell BX.out 4).trans rfl; have by_4 : wb.cell? ⟨gb, 4, none⟩ = some (.int .i64 q.closed) := (blk_cell BY.out 4).trans rfl; have bx_5 : wb.cell? ⟨ga, 5, none⟩ = some (.int .i64 p.low) := (blk_cell BX.out 5).trans rfl; have by_5 : wb.cell? ⟨gb, 5, none⟩ = some (.int .i64 q.low) := (blk_cell BY.out 5).trans rfl; have bx_6 : wb.cell? ⟨ga, 6, none⟩ = some (.slice A1 p.cells.length a1) := (blk_cell BX.out 6).trans rfl; have by_6 : wb.cell? ⟨gb, 6, none⟩ = some (.slice B1 q.cells.length b1) := (blk_cell BY.out 6).trans rfl) | (go_at_call 38; (with_reducible refine (cellsR_same (Kd.C_below Hp1.out.1 HB.out) Hp1.out.2 (Kd.C_below Hq1.out.1 HB.out) Hq1.out.2).mono ?_); rintro e w1 ⟨rfl, hb⟩; have BXn := Aside0.mk (blk_below BX.out hb); have BYn := Aside0.mk (blk_below BY.out hb); have HBn := Aside0.mk (below_step HB.out hb); clear BX BY HB; have BX := BXn; have BY := BYn; have HB := HBn; clear BXn BYn HBn hb; have bx_7w1 : w1.cell? ⟨ga, 7, none⟩ = some (.slice A2 p.records.length a2) := (blk_cell BX.out 7).trans rfl; have bx_8w1 : w1.cell? ⟨ga, 8, none⟩ = some (.slice A3 p.done.length a3) := (blk_cell BX.out 8).trans rfl; have by_7w1 : w1.cell? ⟨gb, 7, none⟩ = some (.slice B2 q.records.length b2) := (blk_cell BY.out 7).trans rfl; have by_8w1 : w1.cell? ⟨gb, 8, none⟩ = some (.slice B3 q.done.length b3) := (blk_cell BY.out 8).trans rfl))
 go_ret
 exact ⟨by rw [He.out]; rfl, HB.out⟩
set_option maxHeartbeats 4000000 in
set_option maxRecDepth 100000 in
theorem samePartR_calls_r {A1 A2 A3 B1 B2 B3 : Option Addr} {a1 a2 a3 b1 b2 b3 : Nat} (p q : PartV) (w : World) (hp1 : Kd.C k75 w A1 p.cells.length p.cells) (kp1 : p.cells.length ≤ a1) (hp2 : Kd.C k83 w A2 p.records.length p.records) (kp2 : p.records.length ≤ a2) (hp3 : Kd.C k83 w A3 p.done.length p.done) (kp3 : p.done.length ≤ a3) (hq1 : Kd.C k75 w B1 q.cells.length q.cells) (kq1 : q.cells.length ≤ b1) (hq2 : Kd.C k83 w B2 q.records.length q.records) (kq2 : q.records.length ≤ b2) (hq3 : Kd.C k83 w B3 q.done.length q.done) (kq3 : q.done.length ≤ b3) (k0 : (p.epoch == q.epoch) = true) (n0 : (p.epoch != q.epoch) = false) (k1 : (p.holder == q.holder) = true) (n1 : (p.holder != q.holder) = false) (k2 : (p.floor.f0 == q.floor.f0 && (p.floor.f1 == q.floor.f1)) = true) (n2 : (!(p.floor.f0 == q.floor.f0) || (!(p.floor.f1 == q.floor.f1))) = false) (k3 : (p.closed == q.closed) = true) (n3 : (p.closed != q.closed) = false) (k4 : (p.low == q.low) = true) (n4 : (p.low != q.low) = false) (h5 : eqb p.cells q.cells = true) (h6 : eqb p.records q.records = false) (He : Aside0 (eqb p q = false)) :
  Calls Try.prog 13 #[partV p (.slice A1 p.cells.length a1) (.slice A2 p.records.length a2) (.slice A3 p.done.length a3), partV q (.slice B1 q.cells.length b1) (.slice B2 q.records.length b2) (.slice B3 q.done.length b3)] w (fun e w' => e = .returned (.bool (eqb p q)) ∧ Below w.heap.size w w') := by
 have hu33 := Try.underlying33
 have hu25 := Try.underlying25
 have Hp1 := Aside0.mk (And.intro hp1 kp1)
 have Hp2 := Aside0.mk (And.intro hp2 kp2)
 have Hp3 := Aside0.mk (And.intro hp3 kp3)
 have Hq1 := Aside0.mk (And.intro hq1 kq1)
 have Hq2 := Aside0.mk (And.intro hq2 kq2)
 have Hq3 := Aside0.mk (And.intro hq3 kq3)
 clear hp1 kp1 hp2 kp2 hp3 kp3 hq1 kq1 hq2 kq2 hq3 kq3
 unfold partV
 go_enter Try.func13, Try.ntmps13
 go_wp2_with (first | ((with_reducible refine gate_dst (N := 2) rfl ?_); refine box_event ?hg (N := 2) ?hd (cs := #[.int .i64 p.epoch, .int .i64 p.holder, .int .i64 p.floor.f0, .int .i64 p.floor.f1, .int .i64 p.closed, .int .i64 p.low, .slice A1 p.cells.length a1, .slice A2 p.records.length a2, .slice A3 p.done.length a3]) (t := 33) ?hr ?_; (case hd => rfl); (case hg => rfl); (case hr => first | (go_simp; done) | (go_simp; rfl)); intro ga hg wa hbox hb; have BX := Aside0.mk hbox; have HB := Aside0.mk hb; clear hg hbox hb) | ((with_reducible refine gate_dst (N := 3) rfl ?_); refine box_event ?hg (N := 3) ?hd (cs := #[.int .i64 q.epoch, .int .i64 q.holder, .int .i64 q.floor.f0, .int .i64 q.floor.f1, .int .i64 q.closed, .int .i64 q.low, .slice B1 q.cells.length b1, .slice B2 q.records.length b2, .slice B3 q.done.length b3]) (t := 33) ?hr ?_; (case hd => rfl); (case hg => rfl); (case hr => first | (go_simp; done) | (go_simp; rfl)); intro gb hg wb hbox hb; have BY := Aside0.mk hbox; have BXn := Aside0.mk (blk_below BX.out hb); have HBn := Aside0.mk (below_step HB.out hb); clear BX HB; have BX := BXn; have HB := HBn; clear BXn HBn hg hbox hb; have bx_0 : wb.cell? ⟨ga, 0, none⟩ = some (.int .i64 p.epoch) := (blk_cell BX.out 0).trans rfl; have by_0 : wb.cell? ⟨gb, 0, none⟩ = some (.int .i64 q.epoch) := (blk_cell BY.out 0).trans rfl; have bx_1 : wb.cell? ⟨ga, 1, none⟩ = some (.int .i64 p.holder) := (blk_cell BX.out 1).trans rfl; have by_1 : wb.cell? ⟨gb, 1, none⟩ = some (.int .i64 q.holder) := (blk_cell BY.out 1).trans rfl; have bx_2 : wb.cell? ⟨ga, 2, none⟩ = some (.int .i64 p.floor.f0) := (blk_cell BX.out 2).trans rfl; have by_2 : wb.cell? ⟨gb, 2, none⟩ = some (.int .i64 q.floor.f0) := (blk_cell BY.out 2).trans rfl; have bx_3 : wb.cell? ⟨ga, 3, none⟩ = some (.int .i64 p.floor.f1) := (blk_cell BX.out 3).trans rfl; have by_3 : wb.cell? ⟨gb, 3, none⟩ = some (.int .i64 q.floor.f1) := (blk_cell BY.out 3).trans rfl; have bx_4 : wb.cell? ⟨ga, 4, none⟩ = some (.int .i64 p.closed) := (blk_cell BX.out 4).trans rfl; have by_4 : wb.cell? ⟨gb, 4, none⟩ = some (.int .i64 q.closed) := (blk_cell BY.out 4).trans rfl; have bx_5 : wb.cell? ⟨ga, 5, none⟩ = some (.int .i64 p.low) := (blk_cell BX.out 5).trans rfl; have by_5 : wb.cell? ⟨gb, 5, none⟩ = some (.int .i64 q.low) := (blk_cell BY.out 5).trans rfl; have bx_6 : wb.cell? ⟨ga, 6, none⟩ = some (.slice A1 p.cells.length a1) := (blk_cell BX.out 6).trans rfl; have by_6 : wb.cell? ⟨gb, 6, none⟩ = some (.slice B1 q.cells.length b1) := (blk_cell BY.out 6).trans rfl) | (go_at_call 38; (with_reducible refine (cellsR_same (Kd.C_below Hp1.out.1 HB.out) Hp1.out.2 (Kd.C_below Hq1.out.1 HB.out) Hq1.out.2).mono ?_); rintro e w1 ⟨rfl, hb⟩; have BXn := Aside0.mk (blk_below BX.out hb); have BYn := Aside0.mk (blk_below BY.out hb); have HBn := Aside0.mk (below_step HB.out hb); clear BX BY HB; have BX := BXn; have BY := BYn; have HB := HBn; clear BXn BYn HBn hb; have bx_7w1 : w1.cell? ⟨ga, 7, none⟩ = some (.slice A2 p.records.length a2) := (blk_cell BX.out 7).trans rfl; have bx_8w1 : w1.cell? ⟨ga, 8, none⟩ = some (.slice A3 p.done.length a3) := (blk_cell BX.out 8).trans rfl; have by_7w1 : w1.cell? ⟨gb, 7, none⟩ = some (.slice B2 q.records.length b2) := (blk_cell BY.out 7).trans rfl; have by_8w1 : w1.cell? ⟨gb, 8, none⟩ = some (.slice B3 q.done.length b3) := (blk_cell BY.out 8).trans rfl) | (go_at_call 39; (with_reducible refine (outsR_same (Kd.C_below Hp2.out.1 HB.out) Hp2.out.2 (Kd.C_below Hq2.out.1 HB.out) Hq2.out.2).mono ?_); rintro e w2 ⟨rfl, hd⟩; have hb := hd.below; clear hd; have BXn := Aside0.mk (blk_below BX.out hb); have BYn := Aside0.mk (blk_below BY.out hb); have HBn := Aside0.mk (below_step HB.out hb); clear BX BY HB; have BX := BXn; have BY := BYn; have HB := HBn; clear BXn BYn HBn hb; have bx_8w2 : w2.cell? ⟨ga, 8, none⟩ = some (.slice A3 p.done.length a3) := (blk_cell BX.out 8).trans rfl; have by_8w2 : w2.cell? ⟨gb, 8, none⟩ = some (.slice B3 q.done.length b3) := (blk_cell BY.out 8).trans rfl))
 go_ret
 exact ⟨by rw [He.out]; rfl, HB.out⟩
set_option maxHeartbeats 4000000 in
set_option maxRecDepth 100000 in
theorem samePartR_calls_d {A1 A2 A3 B1 B2 B3 : Option Addr} {a1 a2 a3 b1 b2 b3 : Nat} (p q : PartV) (w : World) (hp1 : Kd.C k75 w A1 p.cells.length p.cells) (kp1 : p.cells.length ≤ a1) (hp2 : Kd.C k83 w A2 p.records.length p.records) (kp2 : p.records.length ≤ a2) (hp3 : Kd.C k83 w A3 p.done.length p.done) (kp3 : p.done.length ≤ a3) (hq1 : Kd.C k75 w B1 q.cells.length q.cells) (kq1 : q.cells.length ≤ b1) (hq2 : Kd.C k83 w B2 q.records.length q.records) (kq2 : q.records.length ≤ b2) (hq3 : Kd.C k83 w B3 q.done.length q.done) (kq3 : q.done.length ≤ b3) (k0 : (p.epoch == q.epoch) = true) (n0 : (p.epoch != q.epoch) = false) (k1 : (p.holder == q.holder) = true) (n1 : (p.holder != q.holder) = false) (k2 : (p.floor.f0 == q.floor.f0 && (p.floor.f1 == q.floor.f1)) = true) (n2 : (!(p.floor.f0 == q.floor.f0) || (!(p.floor.f1 == q.floor.f1))) = false) (k3 : (p.closed == q.closed) = true) (n3 : (p.closed != q.closed) = false) (k4 : (p.low == q.low) = true) (n4 : (p.low != q.low) = false) (h5 : eqb p.cells q.cells = true) (h6 : eqb p.records q.records = true) (He : Aside0 (eqb p q = eqb p.done q.done)) :
  Calls Try.prog 13 #[partV p (.slice A1 p.cells.length a1) (.slice A2 p.records.length a2) (.slice A3 p.done.length a3), partV q (.slice B1 q.cells.length b1) (.slice B2 q.records.length b2) (.slice B3 q.done.length b3)] w (fun e w' => e = .returned (.bool (eqb p q)) ∧ Below w.heap.size w w') := by
 have hu33 := Try.underlying33
 have hu25 := Try.underlying25
 have Hp1 := Aside0.mk (And.intro hp1 kp1)
 have Hp2 := Aside0.mk (And.intro hp2 kp2)
 have Hp3 := Aside0.mk (And.intro hp3 kp3)
 have Hq1 := Aside0.mk (And.intro hq1 kq1)
 have Hq2 := Aside0.mk (And.intro hq2 kq2)
 have Hq3 := Aside0.mk (And.intro hq3 kq3)
 clear hp1 kp1 hp2 kp2 hp3 kp3 hq1 kq1 hq2 kq2 hq3 kq3
 unfold partV
 go_enter Try.func13, Try.ntmps13
 go_wp2_with (first | ((with_reducible refine gate_dst (N := 2) rfl ?_); refine box_event ?hg (N := 2) ?hd (cs := #[.int .i64 p.epoch, .int .i64 p.holder, .int .i64 p.floor.f0, .int .i64 p.floor.f1, .int .i64 p.closed, .int .i64 p.low, .slice A1 p.cells.length a1, .slice A2 p.records.length a2, .slice A3 p.done.length a3]) (t := 33) ?hr ?_; (case hd => rfl); (case hg => rfl); (case hr => first | (go_simp; done) | (go_simp; rfl)); intro ga hg wa hbox hb; have BX := Aside0.mk hbox; have HB := Aside0.mk hb; clear hg hbox hb) | ((with_reducible refine gate_dst (N := 3) rfl ?_); refine box_event ?hg (N := 3) ?hd (cs := #[.int .i64 q.epoch, .int .i64 q.holder, .int .i64 q.floor.f0, .int .i64 q.floor.f1, .int .i64 q.closed, .int .i64 q.low, .slice B1 q.cells.length b1, .slice B2 q.records.length b2, .slice B3 q.done.length b3]) (t := 33) ?hr ?_; (case hd => rfl); (case hg => rfl); (case hr => first | (go_simp; done) | (go_simp; rfl)); intro gb hg wb hbox hb; have BY := Aside0.mk hbox; have BXn := Aside0.mk (blk_below BX.out hb); have HBn := Aside0.mk (below_step HB.out hb); clear BX HB; have BX := BXn; have HB := HBn; clear BXn HBn hg hbox hb; have bx_0 : wb.cell? ⟨ga, 0, none⟩ = some (.int .i64 p.epoch) := (blk_cell BX.out 0).trans rfl; have by_0 : wb.cell? ⟨gb, 0, none⟩ = some (.int .i64 q.epoch) := (blk_cell BY.out 0).trans rfl; have bx_1 : wb.cell? ⟨ga, 1, none⟩ = some (.int .i64 p.holder) := (blk_cell BX.out 1).trans rfl; have by_1 : wb.cell? ⟨gb, 1, none⟩ = some (.int .i64 q.holder) := (blk_cell BY.out 1).trans rfl; have bx_2 : wb.cell? ⟨ga, 2, none⟩ = some (.int .i64 p.floor.f0) := (blk_cell BX.out 2).trans rfl; have by_2 : wb.cell? ⟨gb, 2, none⟩ = some (.int .i64 q.floor.f0) := (blk_cell BY.out 2).trans rfl; have bx_3 : wb.cell? ⟨ga, 3, none⟩ = some (.int .i64 p.floor.f1) := (blk_cell BX.out 3).trans rfl; have by_3 : wb.cell? ⟨gb, 3, none⟩ = some (.int .i64 q.floor.f1) := (blk_cell BY.out 3).trans rfl; have bx_4 : wb.cell? ⟨ga, 4, none⟩ = some (.int .i64 p.closed) := (blk_cell BX.out 4).trans rfl; have by_4 : wb.cell? ⟨gb, 4, none⟩ = some (.int .i64 q.closed) := (blk_cell BY.out 4).trans rfl; have bx_5 : wb.cell? ⟨ga, 5, none⟩ = some (.int .i64 p.low) := (blk_cell BX.out 5).trans rfl; have by_5 : wb.cell? ⟨gb, 5, none⟩ = some (.int .i64 q.low) := (blk_cell BY.out 5).trans rfl; have bx_6 : wb.cell? ⟨ga, 6, none⟩ = some (.slice A1 p.cells.length a1) := (blk_cell BX.out 6).trans rfl; have by_6 : wb.cell? ⟨gb, 6, none⟩ = some (.slice B1 q.cells.length b1) := (blk_cell BY.out 6).trans rfl) | (go_at_call 38; (with_reducible refine (cellsR_same (Kd.C_below Hp1.out.1 HB.out) Hp1.out.2 (Kd.C_below Hq1.out.1 HB.out) Hq1.out.2).mono ?_); rintro e w1 ⟨rfl, hb⟩; have BXn := Aside0.mk (blk_below BX.out hb); have BYn := Aside0.mk (blk_below BY.out hb); have HBn := Aside0.mk (below_step HB.out hb); clear BX BY HB; have BX := BXn; have BY := BYn; have HB := HBn; clear BXn BYn HBn hb; have bx_7w1 : w1.cell? ⟨ga, 7, none⟩ = some (.slice A2 p.records.length a2) := (blk_cell BX.out 7).trans rfl; have bx_8w1 : w1.cell? ⟨ga, 8, none⟩ = some (.slice A3 p.done.length a3) := (blk_cell BX.out 8).trans rfl; have by_7w1 : w1.cell? ⟨gb, 7, none⟩ = some (.slice B2 q.records.length b2) := (blk_cell BY.out 7).trans rfl; have by_8w1 : w1.cell? ⟨gb, 8, none⟩ = some (.slice B3 q.done.length b3) := (blk_cell BY.out 8).trans rfl) | (go_at_call 39; (with_reducible refine (outsR_same (Kd.C_below Hp2.out.1 HB.out) Hp2.out.2 (Kd.C_below Hq2.out.1 HB.out) Hq2.out.2).mono ?_); rintro e w2 ⟨rfl, hd⟩; have hb := hd.below; clear hd; have BXn := Aside0.mk (blk_below BX.out hb); have BYn := Aside0.mk (blk_below BY.out hb); have HBn := Aside0.mk (below_step HB.out hb); clear BX BY HB; have BX := BXn; have BY := BYn; have HB := HBn; clear BXn BYn HBn hb; have bx_8w2 : w2.cell? ⟨ga, 8, none⟩ = some (.slice A3 p.done.length a3) := (blk_cell BX.out 8).trans rfl; have by_8w2 : w2.cell? ⟨gb, 8, none⟩ = some (.slice B3 q.done.length b3) := (blk_cell BY.out 8).trans rfl) | (go_at_call 39; (with_reducible refine (outsR_same (Kd.C_below Hp3.out.1 HB.out) Hp3.out.2 (Kd.C_below Hq3.out.1 HB.out) Hq3.out.2).mono ?_); rintro e w3 ⟨rfl, hd⟩; have hb := hd.below; clear hd; have BXn := Aside0.mk (blk_below BX.out hb); have BYn := Aside0.mk (blk_below BY.out hb); have HBn := Aside0.mk (below_step HB.out hb); clear BX BY HB; have BX := BXn; have BY := BYn; have HB := HBn; clear BXn BYn HBn hb))
 go_ret
 exact ⟨by rw [He.out]; rfl, HB.out⟩
theorem samePartR_calls {A1 A2 A3 B1 B2 B3 : Option Addr} {a1 a2 a3 b1 b2 b3 : Nat} (p q : PartV) (w : World) (hp1 : Kd.C k75 w A1 p.cells.length p.cells) (kkp1 : p.cells.length ≤ a1) (hp2 : Kd.C k83 w A2 p.records.length p.records) (kkp2 : p.records.length ≤ a2) (hp3 : Kd.C k83 w A3 p.done.length p.done) (kkp3 : p.done.length ≤ a3) (hq1 : Kd.C k75 w B1 q.cells.length q.cells) (kkq1 : q.cells.length ≤ b1) (hq2 : Kd.C k83 w B2 q.records.length q.records) (kkq2 : q.records.length ≤ b2) (hq3 : Kd.C k83 w B3 q.done.length q.done) (kkq3 : q.done.length ≤ b3) :
  Calls Try.prog 13 #[partV p (.slice A1 p.cells.length a1) (.slice A2 p.records.length a2) (.slice A3 p.done.length a3), partV q (.slice B1 q.cells.length b1) (.slice B2 q.records.length b2) (.slice B3 q.done.length b3)] w (fun e w' => e = .returned (.bool (eqb p q)) ∧ Below w.heap.size w w') := by
 by_cases k0 : (p.epoch == q.epoch) = true
 ·have n0 : (p.epoch != q.epoch) = false := by simpa using k0
  by_cases k1 : (p.holder == q.holder) = true
  ·have n1 : (p.holder != q.holder) = false := by simpa using k1
   by_cases k2 : (p.floor.f0 == q.floor.f0 && (p.floor.f1 == q.floor.f1)) = true
   ·have n2 : (!(p.floor.f0 == q.floor.f0) || (!(p.floor.f1 == q.floor.f1))) = false := by simpa using k2
    by_cases k3 : (p.closed == q.closed) = true
    ·have n3 : (p.closed != q.closed) = false := by simpa using k3
     by_cases k4 : (p.low == q.low) = true
     ·have n4 : (p.low != q.low) = false := by simpa using k4
      have He := part_ext k0 k1 k2 k3 k4
      cases h5 : eqb p.cells q.cells with
      | false => exact samePartR_calls_c p q w hp1 kkp1 hp2 kkp2 hp3 kkp3 hq1 kkq1 hq2 kkq2 hq3 kkq3 k0 n0 k1 n1 k2 n2 k3 n3 k4 n4 h5 ⟨by rw [He, h5, Bool.false_and]⟩
      | true =>
       cases h6 : eqb p.records q.records with
       | false => exact samePartR_calls_r p q w hp1 kkp1 hp2 kkp2 hp3 kkp3 hq1 kkq1 hq2 kkq2 hq3 kkq3 k0 n0 k1 n1 k2 n2 k3 n3 k4 n4 h5 h6 ⟨by rw [He, h6, Bool.false_and, Bool.and_false]⟩
       | true => exact samePartR_calls_d p q w hp1 kkp1 hp2 kkp2 hp3 kkp3 hq1 kkq1 hq2 kkq2 hq3 kkq3 k0 n0 k1 n1 k2 n2 k3 n3 k4 n4 h5 h6 ⟨by rw [He, h5, h6, Bool.true_and, Bool.true_and]⟩
     ·have he := eqb_false.2 (fun h : p = q => k4 (by rw [h]; simp))
      replace k4 := Bool.eq_false_iff.mpr k4
      have n4 : (p.low != q.low) = true := by simpa using k4
      exact samePartR_calls_no4 p q w hp1 kkp1 hp2 kkp2 hp3 kkp3 hq1 kkq1 hq2 kkq2 hq3 kkq3 k0 n0 k1 n1 k2 n2 k3 n3 k4 n4 ⟨he⟩
    ·have he := eqb_false.2 (fun h : p = q => k3 (by rw [h]; simp))
     replace k3 := Bool.eq_false_iff.mpr k3
     have n3 : (p.closed != q.closed) = true := by simpa using k3
     exact samePartR_calls_no3 p q w hp1 kkp1 hp2 kkp2 hp3 kkp3 hq1 kkq1 hq2 kkq2 hq3 kkq3 k0 n0 k1 n1 k2 n2 k3 n3 ⟨he⟩
   ·have he := eqb_false.2 (fun h : p = q => k2 (by rw [h]; simp))
    replace k2 := Bool.eq_false_iff.mpr k2
    have n2 : (!(p.floor.f0 == q.floor.f0) || (!(p.floor.f1 == q.floor.f1))) = true := by simp only [Bool.or_eq_true, Bool.not_eq_true']; exact Bool.and_eq_false_iff.1 k2
    exact samePartR_calls_no2 p q w hp1 kkp1 hp2 kkp2 hp3 kkp3 hq1 kkq1 hq2 kkq2 hq3 kkq3 k0 n0 k1 n1 k2 n2 ⟨he⟩
  ·have he := eqb_false.2 (fun h : p = q => k1 (by rw [h]; simp))
   replace k1 := Bool.eq_false_iff.mpr k1
   have n1 : (p.holder != q.holder) = true := by simpa using k1
   exact samePartR_calls_no1 p q w hp1 kkp1 hp2 kkp2 hp3 kkp3 hq1 kkq1 hq2 kkq2 hq3 kkq3 k0 n0 k1 n1 ⟨he⟩
 ·have he := eqb_false.2 (fun h : p = q => k0 (by rw [h]; simp))
  replace k0 := Bool.eq_false_iff.mpr k0
  have n0 : (p.epoch != q.epoch) = true := by simpa using k0
  exact samePartR_calls_no0 p q w hp1 kkp1 hp2 kkp2 hp3 kkp3 hq1 kkq1 hq2 kkq2 hq3 kkq3 k0 n0 ⟨he⟩
end Go.Proofs.Ytjfgapaohldbkaa.WireSm


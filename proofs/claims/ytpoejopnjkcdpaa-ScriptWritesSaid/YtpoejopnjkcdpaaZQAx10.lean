/- Written by a program of this session (wip/myprint.sh): contracts of Go functions of the translation: each call comes to what the Lean function of its name says. -/
import Derived.Test.YtpoejopnjkcdpaaZQAx0
import Derived.Test.YtpoejopnjkcdpaaZQAx8
import Derived.Test.YtpoejopnjkcdpaaZQAx9
namespace Go.Proofs.Ytpoejopnjkcdpaa.QA
open Go.RowKit Go.Proofs.YtpoejopnjkcdpaaW.PrintWords Go.Proofs.YtpoejopnjkcdpaaW.PrintLast Go.Proofs.YtpoejopnjkcdpaaW.PrintMore
attribute [local go_sem] max2_int min2_int max_two min_two max_three min_three max_four min_four   -- for this text's walks alone
set_option linter.unusedVariables false
set_option linter.unusedSimpArgs false
mutual
def antipoderef29_Decode.j0 : Nat → List Int → Int → Bool → Option ((List (S41)))
 | 0, _, _, _ => none
 | k + 1, x0, x1, x13 => if x13 = true then (antipoderef29_Decode.j1 k x0 1) else (antipoderef29_Decode.j1 k x0 x1)
def antipoderef29_Decode.j1 : Nat → List Int → Int → Option ((List (S41)))
 | 0, _, _ => none
 | k + 1, x0, x1 => antipoderef29_Decode.l0 k x0 x1 ([] : List (S41))
def antipoderef29_Decode.l0 : Nat → List Int → Int → List (S41) → Option ((List (S41)))
 | 0, _, _, _ => none
 | k + 1, x0, x1, x5 => if (x0.length : Int) > 0 then ((antipoderef29_long.f k x0).bind fun t212 => (if t212 = 0 then (antipoderef29_Decode.j3 k x0 x1 x5 t212 true) else (antipoderef29_Decode.j3 k x0 x1 x5 t212 (decide (t212 > (x0.length : Int)))))) else (some x5)
def antipoderef29_Decode.j3 : Nat → List Int → Int → List (S41) → Int → Bool → Option ((List (S41)))
 | 0, _, _, _, _, _ => none
 | k + 1, x0, x1, x5, x6, x26 => if x26 = true then (some x5) else (if 0 ≤ x6 then (if x6 ≤ (x0.length : Int) then ((antipoderef29_one.f k (x0.take (x6 : Int).toNat) x1).bind fun bt218 => (if bt218.1 > 0 then (if x5.length < 1466015503701 then (antipoderef29_Decode.l0 k (x0.drop (x6 : Int).toNat) x1 (x5 ++ [(⟨bt218.1, bt218.2.1, bt218.2.2.1, bt218.2.2.2.1, bt218.2.2.2.2.1, bt218.2.2.2.2.2.1, (⟨bt218.2.2.2.2.2.2.1, bt218.2.2.2.2.2.2.2.1, bt218.2.2.2.2.2.2.2.2.1, bt218.2.2.2.2.2.2.2.2.2.1, bt218.2.2.2.2.2.2.2.2.2.2⟩ : S39)⟩ : S41)])) else (none)) else (antipoderef29_Decode.l0 k (x0.drop (x6 : Int).toNat) x1 x5))) else (none)) else (none))
end
def antipoderef29_Decode.f (k : Nat) (l0 : List Int) (a1 : Int) : Option ((List (S41))) := if a1 < 1 then (antipoderef29_Decode.j0 k l0 a1 true) else (antipoderef29_Decode.j0 k l0 a1 (decide (a1 > 9)))
set_option maxHeartbeats 8000000 in
set_option maxRecDepth 100000 in
theorem antipoderef29_Decode.calls (k : Nat) (P0_ : Nat → Prop) (A0 : Option Addr) (c0 : Nat) (l0 : List Int) (a1 : Int) (r : List (S41)) (w : World) (hs0 : Kd.V (Kd.int .u8) 5 w w.heap.size (fun k_ => P0_ k_) (.slice A0 l0.length c0) l0) (h : antipoderef29_Decode.f k l0 a1 = some r) :
  Calls Try.prog 13 #[.slice A0 l0.length c0, .int .i64 a1] w fun e w' => ∃ v0_ : Value, e = .returned (v0_) ∧ Kd.S k41 41 w' w.heap.size (fun k_ => (w.heap.size ≤ k_)) v0_ r ∧ Below w.heap.size w w' := by
 have hu41 := Try.underlying41
 have HO0 := Aside0.mk (show Kd.V (Kd.int .u8) 5 w w.heap.size (fun k_ => (P0_ k_ ∨ w.heap.size ≤ k_)) (.slice A0 l0.length c0) l0 from Kd.V_mono hs0 (fun k_ hk => .inl hk))
 have HB := Aside0.mk (Below.refl w.heap.size w)
 have H : (if a1 < 1 then (antipoderef29_Decode.j0 k l0 a1 true) else (antipoderef29_Decode.j0 k l0 a1 (decide (a1 > 9)))) = some r := h
 clear h
 have HC3 := Aside0.mk H
 clear H
 go_enter Try.func13, Try.ntmps13
 go_upto_region 1 with (fail)
 go_cut [13] (fun v13 wc => ∃ (kq : Nat) (x13_2 : Bool), v13 = .bool x13_2 ∧ Aside0 (antipoderef29_Decode.j0 kq l0 a1 x13_2 = some r) ∧ Aside0 (kq ≤ k) ∧ Aside0 (Kd.V (Kd.int .u8) 5 wc w.heap.size (fun k_ => (P0_ k_ ∨ w.heap.size ≤ k_)) (.slice A0 l0.length c0) l0) ∧ Aside0 (Below w.heap.size w wc))
 case first =>
  have H := HC3.out
  clear HC3
  by_cases c4 : a1 < 1
  ·rw [if_pos c4] at H
   have c4b0 : decide (a1 < 1) = true := decide_eq_true c4
   clear c4
   (first | rw [c4b0] | (simp only [i64_w, i32_w]; rw [c4b0]) | skip)
   have H' := Aside0.mk H
   clear H
   go_wp2
   go_meet
   case rel => exact ⟨_, (true), (by first | rfl | (simp; done) | (simp [*]; done)), H', ⟨by first | omega | exact Nat.le_refl _⟩, ⟨by (with_reducible repeat (first | apply Kd.V_alloc | apply Kd.V_drewN | apply Kd.V_drew)); exact HO0.out⟩, ⟨by repeat (first | (with_reducible first | exact HB.out | apply below_alloc | apply pw_below_drewN | apply below_drew1) | exact HB.out)⟩⟩
  ·rw [if_neg c4] at H
   have c4b0 : decide (a1 < 1) = false := decide_eq_false c4
   clear c4
   (first | rw [c4b0] | (simp only [i64_w, i32_w]; rw [c4b0]) | skip)
   have H' := Aside0.mk H
   clear H
   go_wp2
   go_meet
   case rel => exact ⟨_, (decide (a1 > 9)), (by first | rfl | (simp; done) | (simp [*]; done)), H', ⟨by first | omega | exact Nat.le_refl _⟩, ⟨by (with_reducible repeat (first | apply Kd.V_alloc | apply Kd.V_drewN | apply Kd.V_drew)); exact HO0.out⟩, ⟨by repeat (first | (with_reducible first | exact HB.out | apply below_alloc | apply pw_below_drewN | apply below_drew1) | exact HB.out)⟩⟩
 case rest =>
  clear HC3
  try clear c1
  try clear p2
  try clear c4
  try clear c4b0
  obtain ⟨kq, x13_2, rfl, HA, HJ2, HO_0, HB⟩ := hcut
  cases kq with
  | zero => exact absurd HA.out (by simp [antipoderef29_Decode.j0])
  | succ kj2 =>
   have H := HA.out
   clear HA
   simp only [antipoderef29_Decode.j0] at H
   have HC5 := Aside0.mk H
   clear H
   go_upto_if 13 with (fail)
   go_cut [1] (fun v1 wc => ∃ (kq : Nat) (x1_4 : Int), v1 = .int .i64 x1_4 ∧ Aside0 (antipoderef29_Decode.j1 kq l0 x1_4 = some r) ∧ Aside0 (kq ≤ kj2) ∧ Aside0 (Kd.V (Kd.int .u8) 5 wc w.heap.size (fun k_ => (P0_ k_ ∨ w.heap.size ≤ k_)) (.slice A0 l0.length c0) l0) ∧ Aside0 (Below w.heap.size w wc))
   case first =>
    have H := HC5.out
    clear HC5
    by_cases c6 : x13_2 = true
    ·subst c6
     have H1 : (antipoderef29_Decode.j1 kj2 l0 1) = some r := by rw [if_pos rfl] at H; exact H
     clear H
     have H := H1
     clear H1
     have H' := Aside0.mk H
     clear H
     go_wp2
     go_meet
     case rel => exact ⟨_, (1), (by first | rfl | (simp; done) | (simp [*]; done)), H', ⟨by have := HJ2.out; first | omega | exact Nat.le_refl _⟩, ⟨by (with_reducible repeat (first | apply Kd.V_alloc | apply Kd.V_drewN | apply Kd.V_drew)); exact HO_0.out⟩, ⟨by repeat (first | (with_reducible first | exact HB.out | apply below_alloc | apply pw_below_drewN | apply below_drew1) | exact HB.out)⟩⟩
    ·replace c6 := Bool.eq_false_iff.mpr c6
     subst c6
     have H1 : (antipoderef29_Decode.j1 kj2 l0 a1) = some r := by rw [if_neg (show ¬ (false = true) by decide)] at H; exact H
     clear H
     have H := H1
     clear H1
     have H' := Aside0.mk H
     clear H
     go_wp2
     go_meet
     case rel => exact ⟨_, (a1), (by first | rfl | (simp; done) | (simp [*]; done)), H', ⟨by have := HJ2.out; first | omega | exact Nat.le_refl _⟩, ⟨by (with_reducible repeat (first | apply Kd.V_alloc | apply Kd.V_drewN | apply Kd.V_drew)); exact HO_0.out⟩, ⟨by repeat (first | (with_reducible first | exact HB.out | apply below_alloc | apply pw_below_drewN | apply below_drew1) | exact HB.out)⟩⟩
   case rest =>
    clear HC5
    try clear c1
    try clear p2
    try clear c4
    try clear c4b0
    try clear c6
    try clear p2
    obtain ⟨kq, x1_4, rfl, HA, HJ4, HO_0, HB⟩ := hcut
    cases kq with
    | zero => exact absurd HA.out (by simp [antipoderef29_Decode.j1])
    | succ kj4 =>
     have H := HA.out
     clear HA
     simp only [antipoderef29_Decode.j1] at H
     have H' := Aside0.mk H
     clear H
     go_wp2
     go_loopg [0, 5] kj4 (fun kq v0 v5 w' => ∃ (x0_3 : List Int) (x5_3 : List (S41)), Aside0 (antipoderef29_Decode.l0 kq x0_3 x1_4 x5_3 = some r) ∧ Aside0 (kq ≤ kj4) ∧ Aside0 (Kd.V (Kd.int .u8) 5 w' w.heap.size (fun k_ => (P0_ k_ ∨ w.heap.size ≤ k_) ∧ some k_ ≠ (v5 : Value).ownBlock) v0 x0_3) ∧ Aside0 (Kd.S k41 41 w' w.heap.size (fun k_ => (w.heap.size ≤ k_)) v5 x5_3) ∧ Aside0 (Below w.heap.size w w'))
     case atStart => exact ⟨(l0), (([] : List (S41))), H', ⟨Nat.le_refl _⟩, ⟨by (with_reducible repeat (first | apply Kd.V_alloc | apply Kd.V_drewN | apply Kd.V_drew)); exact Kd.V_mono HO_0.out (fun _ hk => ⟨hk, (by simp [Value.ownBlock])⟩)⟩, ⟨by first | exact Kd.S_nil _ _ _ _ _ | exact Kd.N_nil _ _ _ _ _ | exact Kd.V_nil _ _ _ _ _ | exact Kd.Q_nil _ _ _ _ _ | exact Kd.R_nil _ _ _ _ _⟩, ⟨by repeat (first | (with_reducible first | exact HB.out | apply below_alloc | apply pw_below_drewN | apply below_drew1) | exact HB.out)⟩⟩
     case round =>
      clear H'
      try clear c1
      try clear p2
      try clear c4
      try clear c4b0
      try clear c6
      try clear p2
      obtain ⟨x0_3, x5_3, HA, HK3, HO_0, HO_5, HB⟩ := hrel
      cases gk with
      | zero => exact absurd HA.out (by simp [antipoderef29_Decode.l0])
      | succ k3 =>
       have H := HA.out
       clear HA
       simp only [antipoderef29_Decode.l0] at H
       by_cases c7 : (x0_3.length : Int) > 0
       ·rw [if_pos c7] at H
        have c7b0 : decide (0 < (x0_3.length : Int)) = true := decide_eq_true c7
        have c7b1 : decide (0 < x0_3.length) = true := decide_eq_true (by omega)
        clear c7
        replace H := Option.bind_eq_some_iff.mp H
        obtain ⟨t212, A80, H⟩ := H
        replace H : (if t212 = 0 then (antipoderef29_Decode.j3 k3 x0_3 x1_4 x5_3 t212 true) else (antipoderef29_Decode.j3 k3 x0_3 x1_4 x5_3 t212 (decide (t212 > (x0_3.length : Int))))) = some r := H
        have A8 := Aside0.mk A80
        clear A80
        have HC9 := Aside0.mk H
        clear H
        obtain ⟨Ao10, co10, eo10⟩ := Kd.V_slice HO_0.out
        subst eo10
        go_upto_region 6 with (first | ((with_reducible refine gate_callee (f := 19) rfl ?_); refine goesL_ (some 18) rfl rfl Try.func19 (by kernel_rfl) rfl #[.slice Ao10 x0_3.length co10] rfl (by (try simp only [List.map_toArray, List.map_cons, List.map_nil]); first | done | rfl | (simp only [List.length_drop, List.length_take]; rfl)) ?_; (with_reducible refine (antipoderef29_long.calls k3 _ _ x0_3 t212 _ ?side1 ?side2 A8.out).mono ?_); (case side1 => repeat (first | exact (Kd.V_reads' HO_0.out).2.2 | (with_reducible refine Kd.C_alloc ?_ _) | (with_reducible refine Kd.C_drewN ?_ _) | (with_reducible refine Kd.C_drew ?_))); (case side2 => exact (Kd.V_reads' HO_0.out).2.1); rintro e w' ⟨rfl, ⟨nd, rfl⟩⟩; refine ⟨_, rfl, ?_⟩))
        (try simp only [Act.put, List.setIfInBounds_toArray, List.set_cons_zero, List.set_cons_succ])
        go_cut [26] (fun v26 wc => ∃ (kq : Nat) (x26_8 : Bool), v26 = .bool x26_8 ∧ Aside0 (antipoderef29_Decode.j3 kq x0_3 x1_4 x5_3 t212 x26_8 = some r) ∧ Aside0 (kq ≤ k3) ∧ Aside0 (Kd.V (Kd.int .u8) 5 wc w.heap.size (fun k_ => (P0_ k_ ∨ w.heap.size ≤ k_) ∧ some k_ ≠ (u5 : Value).ownBlock) (.slice Ao10 x0_3.length co10) x0_3) ∧ Aside0 (Kd.S k41 41 wc w.heap.size (fun k_ => (w.heap.size ≤ k_)) u5 x5_3) ∧ Aside0 (Below w.heap.size w wc))
        case first =>
         have H := HC9.out
         clear HC9
         by_cases c11 : t212 = 0
         ·rw [if_pos c11] at H
          have c11b0 : (t212 == 0) = true := beq_iff_eq.mpr c11
          have c11b1 : (t212 != 0) = false := bne_eq_false_iff_eq.mpr c11
          clear c11
          (first | rw [c11b0] | (simp only [i64_w, i32_w]; rw [c11b0]) | skip)
          have H' := Aside0.mk H
          clear H
          go_wp2
          go_meet
          case rel => exact ⟨_, (true), (by first | rfl | (simp; done) | (simp [*]; done)), H', ⟨by have := HJ2.out; have := HJ4.out; have := HK3.out; first | omega | exact Nat.le_refl _⟩, ⟨by (with_reducible repeat (first | apply Kd.V_alloc | apply Kd.V_drewN | apply Kd.V_drew)); exact HO_0.out⟩, ⟨by (with_reducible repeat (first | apply Kd.S_alloc | apply Kd.S_drewN | apply Kd.S_drew)); exact HO_5.out⟩, ⟨by repeat (first | (with_reducible first | exact HB.out | apply below_alloc | apply pw_below_drewN | apply below_drew1) | exact HB.out)⟩⟩
         ·rw [if_neg c11] at H
          have c11b0 : (t212 == 0) = false := beq_eq_false_iff_ne.mpr c11
          have c11b1 : (t212 != 0) = true := bne_iff_ne.mpr c11
          (first | rw [c11b0] | (simp only [i64_w, i32_w]; rw [c11b0]) | skip)
          have H' := Aside0.mk H
          clear H
          go_wp2
          go_meet
          case rel => exact ⟨_, (decide (t212 > (x0_3.length : Int))), (by first | rfl | (simp; done) | (simp [*]; done)), H', ⟨by have := HJ2.out; have := HJ4.out; have := HK3.out; first | omega | exact Nat.le_refl _⟩, ⟨by (with_reducible repeat (first | apply Kd.V_alloc | apply Kd.V_drewN | apply Kd.V_drew)); exact HO_0.out⟩, ⟨by (with_reducible repeat (first | apply Kd.S_alloc | apply Kd.S_drewN | apply Kd.S_drew)); exact HO_5.out⟩, ⟨by repeat (first | (with_reducible first | exact HB.out | apply below_alloc | apply pw_below_drewN | apply below_drew1) | exact HB.out)⟩⟩
        case rest =>
         clear HC9
         try clear c1
         try clear p2
         try clear c4
         try clear c4b0
         try clear c6
         try clear c7
         try clear c7b0
         try clear c7b1
         try clear c11
         try clear c11b0
         try clear c11b1
         try clear p2
         obtain ⟨kq, x26_8, rfl, HA, HJ8, HO_0, HO_5, HB⟩ := hcut
         cases kq with
         | zero => exact absurd HA.out (by simp [antipoderef29_Decode.j3])
         | succ kj8 =>
          have H := HA.out
          clear HA
          simp only [antipoderef29_Decode.j3] at H
          by_cases c12 : x26_8 = true
          ·subst c12
           have H1 : (some x5_3) = some r := by rw [if_pos rfl] at H; exact H
           clear H
           have H := H1
           clear H1
           obtain rfl := Option.some.inj H
           go_wp2
           go_ret
           exact ⟨_, by first | rfl | (simp [errW_none, errW_some] <;> rfl) | (simp [*, errW_none, errW_some] <;> rfl), by (with_reducible repeat (first | apply Kd.S_alloc | apply Kd.S_drewN | apply Kd.S_drew)); exact HO_5.out, by repeat (first | (with_reducible first | exact HB.out | apply below_alloc | apply pw_below_drewN | apply below_drew1) | exact HB.out)⟩
          ·replace c12 := Bool.eq_false_iff.mpr c12
           subst c12
           have H1 : (if 0 ≤ t212 then (if t212 ≤ (x0_3.length : Int) then ((antipoderef29_one.f kj8 (x0_3.take (t212 : Int).toNat) x1_4).bind fun bt218 => (if bt218.1 > 0 then (if x5_3.length < 1466015503701 then (antipoderef29_Decode.l0 kj8 (x0_3.drop (t212 : Int).toNat) x1_4 (x5_3 ++ [(⟨bt218.1, bt218.2.1, bt218.2.2.1, bt218.2.2.2.1, bt218.2.2.2.2.1, bt218.2.2.2.2.2.1, (⟨bt218.2.2.2.2.2.2.1, bt218.2.2.2.2.2.2.2.1, bt218.2.2.2.2.2.2.2.2.1, bt218.2.2.2.2.2.2.2.2.2.1, bt218.2.2.2.2.2.2.2.2.2.2⟩ : S39)⟩ : S41)])) else (none)) else (antipoderef29_Decode.l0 kj8 (x0_3.drop (t212 : Int).toNat) x1_4 x5_3))) else (none)) else (none)) = some r := by rw [if_neg (show ¬ (false = true) by decide)] at H; exact H
           clear H
           have H := H1
           clear H1
           by_cases c13 : 0 ≤ t212
           ·rw [if_pos c13] at H
            have c13b0 := eq_true c13
            have c13b1 : decide (0 ≤ t212) = true := decide_eq_true c13
            clear c13
            by_cases c14 : t212 ≤ (x0_3.length : Int)
            ·rw [if_pos c14] at H
             have c14b0 := eq_true c14
             have c14b1 : decide (t212 ≤ (x0_3.length : Int)) = true := decide_eq_true c14
             clear c14
             obtain ⟨y213, hy213⟩ : ∃ y_ : List Int, y_ = (x0_3.take (t212 : Int).toNat) := ⟨_, rfl⟩
             replace H : ((antipoderef29_one.f kj8 y213 x1_4).bind fun bt218 => (if bt218.1 > 0 then (if x5_3.length < 1466015503701 then (antipoderef29_Decode.l0 kj8 (x0_3.drop (t212 : Int).toNat) x1_4 (x5_3 ++ [(⟨bt218.1, bt218.2.1, bt218.2.2.1, bt218.2.2.2.1, bt218.2.2.2.2.1, bt218.2.2.2.2.2.1, (⟨bt218.2.2.2.2.2.2.1, bt218.2.2.2.2.2.2.2.1, bt218.2.2.2.2.2.2.2.2.1, bt218.2.2.2.2.2.2.2.2.2.1, bt218.2.2.2.2.2.2.2.2.2.2⟩ : S39)⟩ : S41)])) else (none)) else (antipoderef29_Decode.l0 kj8 (x0_3.drop (t212 : Int).toNat) x1_4 x5_3))) = some r := by first | (rw [hy213]; with_reducible exact H) | (have H2_ := (Option.bind_some _ _).symm.trans H; rw [hy213]; with_reducible exact H2_) | (have H2_ := (Option.bind_some _ _).symm.trans H; with_reducible exact H2_) | with_reducible exact H | (rw [hy213]; exact H) | exact H
             have Ny213 := Aside0.mk hy213
             clear hy213
             replace H := Option.bind_eq_some_iff.mp H
             obtain ⟨⟨t218, t219, t220, t221, t222, t223, t226, t227, t228, t229, t230⟩, A150, H⟩ := H
             replace H : (if t218 > 0 then (if x5_3.length < 1466015503701 then (antipoderef29_Decode.l0 kj8 (x0_3.drop (t212 : Int).toNat) x1_4 (x5_3 ++ [(⟨t218, t219, t220, t221, t222, t223, (⟨t226, t227, t228, t229, t230⟩ : S39)⟩ : S41)])) else (none)) else (antipoderef29_Decode.l0 kj8 (x0_3.drop (t212 : Int).toNat) x1_4 x5_3)) = some r := H
             have A15 := Aside0.mk A150
             clear A150
             by_cases c16 : t218 > 0
             ·rw [if_pos c16] at H
              have c16b0 : decide (0 < t218) = true := decide_eq_true c16
              clear c16
              by_cases c17 : x5_3.length < 1466015503701
              ·rw [if_pos c17] at H
               have LMc17 := Aside0.mk c17
               clear c17
               obtain ⟨y232, hy232⟩ : ∃ y_ : List (S41), y_ = (x5_3 ++ [(⟨t218, t219, t220, t221, t222, t223, (⟨t226, t227, t228, t229, t230⟩ : S39)⟩ : S41)]) := ⟨_, rfl⟩
               replace H : (antipoderef29_Decode.l0 kj8 (x0_3.drop (t212 : Int).toNat) x1_4 y232) = some r := by first | (rw [hy232]; with_reducible exact H) | (have H2_ := (Option.bind_some _ _).symm.trans H; rw [hy232]; with_reducible exact H2_) | (have H2_ := (Option.bind_some _ _).symm.trans H; with_reducible exact H2_) | with_reducible exact H | (rw [hy232]; exact H) | exact H
               have Ny232 := Aside0.mk hy232
               clear hy232
               have c18b0 := eq_true (of_decide_eq_true (by first | (with_reducible assumption) | assumption) : 0 ≤ t212)
               have c19b0 := eq_true (of_decide_eq_true (by first | (with_reducible assumption) | assumption) : t212 ≤ (x0_3.length : Int))
               obtain ⟨y235, hy235⟩ : ∃ y_ : List Int, y_ = (x0_3.drop (t212 : Int).toNat) := ⟨_, rfl⟩
               replace H : (antipoderef29_Decode.l0 kj8 y235 x1_4 y232) = some r := by first | (rw [hy235]; with_reducible exact H) | (have H2_ := (Option.bind_some _ _).symm.trans H; rw [hy235]; with_reducible exact H2_) | (have H2_ := (Option.bind_some _ _).symm.trans H; with_reducible exact H2_) | with_reducible exact H | (rw [hy235]; exact H) | exact H
               have Ny235 := Aside0.mk hy235
               clear hy235
               have H' := Aside0.mk H
               clear H
               have q20 : (t212 : Int) ≤ ((x0_3.length : Int) : Int) := of_decide_eq_true (by first | (with_reducible assumption) | assumption)
               obtain ⟨i020, hi020, _, hsz20, _⟩ := info_parts info5
               have hroom20 : x0_3.length ≤ co10 := (Kd.V_reads' HO_0.out).2.1
               have hC20 : Kd.F (Kd.int .u8) _ _ Ao10 x0_3.length x0_3 := (Kd.V_at (base := w.heap.size) HO_0.out).2.2
               have hcut20 := cut_to (P := Try.prog) 22 5 .i64 Try.underlying22 hi020 Ao10 x0_3.length co10 t212 (of_decide_eq_true (by first | (with_reducible assumption) | assumption)) q20 hroom20
               have hr20 := Kd.F_take (m := (t212 : Int).toNat) hC20 (by omega)
               have hy20 : y213.length = (t212 : Int).toNat := (by rw [Ny213.out, List.length_take]; omega)
               rw [← Ny213.out] at hr20
               rw [← hy20] at hcut20
               have HO217 := Aside0.mk (show Kd.V (Kd.int .u8) 5 _ w.heap.size _ (.slice Ao10 y213.length co10) y213 from Kd.V_mk (by omega) hr20)
               have HC217 := Aside0.mk (show y213.length ≤ co10 from by omega)
               clear hr20 hC20 hroom20 hi020 hsz20
               have KY20 := Aside0.mk hy20
               clear hy20
               replace q20 := eq_true q20
               go_wp2_with (first | ((with_reducible refine gate_callee (f := 20) rfl ?_); refine goesL_ (some 31) rfl rfl Try.func20 (by kernel_rfl) rfl #[.slice Ao10 y213.length co10, .int .i64 x1_4] rfl (by (try simp only [List.map_toArray, List.map_cons, List.map_nil]); first | done | rfl | (simp only [List.length_drop, List.length_take]; rfl)) ?_; (with_reducible refine (antipoderef29_one.calls kj8 _ _ y213 x1_4 t218 t219 t220 t221 t222 t223 t226 t227 t228 t229 t230 _ ?side1 ?side2 A15.out).mono ?_); (case side1 => repeat (first | exact (Kd.V_reads' HO217.out).2.2 | (with_reducible refine Kd.C_alloc ?_ _) | (with_reducible refine Kd.C_drewN ?_ _) | (with_reducible refine Kd.C_drew ?_))); (case side2 => exact (Kd.V_reads' HO217.out).2.1); rintro e w21 ⟨v224, rfl, ho0, hb⟩; refine ⟨_, rfl, ?_⟩; have n0_ := Aside0.mk (Kd.V_elder' (by (with_reducible repeat (first | apply Kd.V_alloc | apply Kd.V_drewN | apply Kd.V_drew)); exact HO_0.out) (Kd.R_base ho0) hb); have n1_ := Aside0.mk (Kd.S_elder' (by (with_reducible repeat (first | apply Kd.S_alloc | apply Kd.S_drewN | apply Kd.S_drew)); exact HO_5.out) (Kd.R_base ho0) hb); have n2_ := Aside0.mk (Kd.V_elder' (by (with_reducible repeat (first | apply Kd.V_alloc | apply Kd.V_drewN | apply Kd.V_drew)); exact HO217.out) (Kd.R_base ho0) hb); have n3_ := Aside0.mk (Kd.R_lower (Kd.R_newM (M := fun k_ => (w.heap.size ≤ k_)) ho0 (below_size (by repeat (first | (with_reducible first | exact HB.out | apply below_alloc | apply pw_below_drewN | apply below_drew1) | exact HB.out))) (fun k_ h_ => h_)) (below_size (by repeat (first | (with_reducible first | exact HB.out | apply below_alloc | apply pw_below_drewN | apply below_drew1) | exact HB.out)))); have n4_ := Aside0.mk (below_step (by repeat (first | (with_reducible first | exact HB.out | apply below_alloc | apply pw_below_drewN | apply below_drew1) | exact HB.out)) hb); clear HO_0; clear HO_5; clear HO217; clear HB; have HO_0 := n0_; have HO_5 := n1_; have HO217 := n2_; have HO225 := n3_; have HB := n4_; clear n0_ n1_ n2_ n3_ n4_; (try clear hb); (try clear hb2); (try clear hk); (try clear hi); (try clear ho0)) | ((with_reducible refine gate_dst (N := 7) rfl ?_); (try (refine gate_guard (by rfl) ?_; dsimp only)); refine box_event ?hg (N := 7) ?hd (cs := #[.int .i64 0, .int .i64 0, .int .i64 0, .int .i64 0, .string (⟨#[]⟩ : ByteArray), .slice none 0 0, .int .u16 0, .int .u16 0, .int .u16 0, .int .i64 0, .int .i64 0]) (t := 41) ?hr ?_; (case hd => rfl); (case hg => rfl); (case hr => first | (go_simp; done) | (go_simp; rfl)); intro gb231 hg w22 hbox hb; have n0_ := Aside0.mk (Kd.V_below (Kd.V_elderB (by (with_reducible repeat (first | apply Kd.V_alloc | apply Kd.V_drewN | apply Kd.V_drew)); exact HO_0.out) gb231 (Nat.le_of_eq hg.symm)) hb); have n1_ := Aside0.mk (Kd.S_below (Kd.S_elderB (by (with_reducible repeat (first | apply Kd.S_alloc | apply Kd.S_drewN | apply Kd.S_drew)); exact HO_5.out) gb231 (Nat.le_of_eq hg.symm)) hb); have n2_ := Aside0.mk (Kd.V_below (Kd.V_elderB (by (with_reducible repeat (first | apply Kd.V_alloc | apply Kd.V_drewN | apply Kd.V_drew)); exact HO217.out) gb231 (Nat.le_of_eq hg.symm)) hb); have n3_ := Aside0.mk (Kd.R_below (by (with_reducible repeat (first | apply Kd.R_alloc | apply Kd.R_drewN | apply Kd.R_drew)); exact HO225.out) hb); have n4_ := Aside0.mk (below_step (by repeat (first | (with_reducible first | exact HB.out | apply below_alloc | apply pw_below_drewN | apply below_drew1) | exact HB.out)) hb); have n5_ := Aside0.mk (hbox); have n6_ := Aside0.mk ((by rw [hg]; exact (below_size (by repeat (first | (with_reducible first | exact HB.out | apply below_alloc | apply pw_below_drewN | apply below_drew1) | exact HB.out))) : w.heap.size ≤ gb231)); have n7_ := Aside0.mk ((by rw [hg]; exact (below_size (by repeat (first | (with_reducible first | exact HB.out | apply below_alloc | apply pw_below_drewN | apply below_drew1) | exact HB.out))) : w.heap.size ≤ gb231)); clear HO_0; clear HO_5; clear HO217; clear HO225; clear HB; have HO_0 := n0_; have HO_5 := n1_; have HO217 := n2_; have HO225 := n3_; have HB := n4_; have BK231 := n5_; have GW231 := n6_; have GE231 := n7_; clear n0_ n1_ n2_ n3_ n4_ n5_ n6_ n7_; clear hb hbox hg; have hcz23_0 : w22.cell? ⟨gb231, 0, none⟩ = some (.int .i64 0) := (blk_cell BK231.out 0).trans rfl; have hcz23_1 : w22.cell? ⟨gb231, 1, none⟩ = some (.int .i64 0) := (blk_cell BK231.out 1).trans rfl; have hcz23_2 : w22.cell? ⟨gb231, 2, none⟩ = some (.int .i64 0) := (blk_cell BK231.out 2).trans rfl; have hcz23_3 : w22.cell? ⟨gb231, 3, none⟩ = some (.int .i64 0) := (blk_cell BK231.out 3).trans rfl; have hcz23_4 : w22.cell? ⟨gb231, 4, none⟩ = some (.string (⟨#[]⟩ : ByteArray)) := (blk_cell BK231.out 4).trans rfl; have hcz23_5 : w22.cell? ⟨gb231, 5, none⟩ = some (.slice none 0 0) := (blk_cell BK231.out 5).trans rfl; have hcz23_6 : w22.cell? ⟨gb231, 6, none⟩ = some (.int .u16 0) := (blk_cell BK231.out 6).trans rfl; have hcz23_7 : w22.cell? ⟨gb231, 7, none⟩ = some (.int .u16 0) := (blk_cell BK231.out 7).trans rfl; have hcz23_8 : w22.cell? ⟨gb231, 8, none⟩ = some (.int .u16 0) := (blk_cell BK231.out 8).trans rfl; have hcz23_9 : w22.cell? ⟨gb231, 9, none⟩ = some (.int .i64 0) := (blk_cell BK231.out 9).trans rfl; have hcz23_10 : w22.cell? ⟨gb231, 10, none⟩ = some (.int .i64 0) := (blk_cell BK231.out 10).trans rfl; have hfz23_0 := blk_frozen BK231.out 0; have hfz23_1 := blk_frozen BK231.out 1; have hfz23_2 := blk_frozen BK231.out 2; have hfz23_3 := blk_frozen BK231.out 3; have hfz23_4 := blk_frozen BK231.out 4; have hfz23_5 := blk_frozen BK231.out 5; have hfz23_6 := blk_frozen BK231.out 6; have hfz23_7 := blk_frozen BK231.out 7; have hfz23_8 := blk_frozen BK231.out 8; have hfz23_9 := blk_frozen BK231.out 9; have hfz23_10 := blk_frozen BK231.out 10; obtain ⟨Ao24, co24, eo24⟩ := Kd.R_slice HO225.out; subst eo24) | ((with_reducible refine gate_store (t := 41) (p := 7) rfl ?_); refine store_event (t := 41) (p := 7) (v := ?vo_w25) (w1 := (((((((((((w22.setCell ⟨gb231, 0, none⟩ (.int .i64 t218)).setCell ⟨gb231, 1, none⟩ (.int .i64 t219)).setCell ⟨gb231, 2, none⟩ (.int .i64 t220)).setCell ⟨gb231, 3, none⟩ (.int .i64 t221)).setCell ⟨gb231, 4, none⟩ (.string t222)).setCell ⟨gb231, 5, none⟩ (.slice Ao24 t223.length co24)).setCell ⟨gb231, 6, none⟩ (.int .u16 t226)).setCell ⟨gb231, 7, none⟩ (.int .u16 t227)).setCell ⟨gb231, 8, none⟩ (.int .u16 t228)).setCell ⟨gb231, 9, none⟩ (.int .i64 t229)).setCell ⟨gb231, 10, none⟩ (.int .i64 t230))) ?hg ?ho ?hn ?hr ?_; (case ho => rfl); (case hg => rfl); (case hn => rfl); (case hr => first | (go_simp; done) | (go_simp; rfl)); intro w25 hw; have n0_ : Aside0 (Kd.V (Kd.int .u8) 5 w25 w.heap.size (fun k_ => (P0_ k_ ∨ w.heap.size ≤ k_) ∧ some k_ ≠ (u5 : Value).ownBlock ∧ some k_ ≠ (.slice Ao24 t223.length co24 : Value).ownBlock ∧ k_ ≠ gb231) (.slice Ao10 x0_3.length co10) x0_3) := ⟨(by rw [hw]; exact (by (with_reducible repeat (first | apply Kd.V_alloc | apply Kd.V_drewN | apply Kd.V_drew)); exact Kd.V_mono (Kd.V_far (p := ⟨gb231, 10, none⟩) (Kd.V_far (p := ⟨gb231, 9, none⟩) (Kd.V_far (p := ⟨gb231, 8, none⟩) (Kd.V_far (p := ⟨gb231, 7, none⟩) (Kd.V_far (p := ⟨gb231, 6, none⟩) (Kd.V_far (p := ⟨gb231, 5, none⟩) (Kd.V_far (p := ⟨gb231, 4, none⟩) (Kd.V_far (p := ⟨gb231, 3, none⟩) (Kd.V_far (p := ⟨gb231, 2, none⟩) (Kd.V_far (p := ⟨gb231, 1, none⟩) (Kd.V_far (p := ⟨gb231, 0, none⟩) (Kd.V_mono HO_0.out (fun k_ hk => (⟨hk, hk.2⟩ : _ ∧ k_ ≠ gb231))) (fun _ hk => hk.2) (.int .i64 t218)) (fun _ hk => hk.2) (.int .i64 t219)) (fun _ hk => hk.2) (.int .i64 t220)) (fun _ hk => hk.2) (.int .i64 t221)) (fun _ hk => hk.2) (.string t222)) (fun _ hk => hk.2) (.slice Ao24 t223.length co24)) (fun _ hk => hk.2) (.int .u16 t226)) (fun _ hk => hk.2) (.int .u16 t227)) (fun _ hk => hk.2) (.int .u16 t228)) (fun _ hk => hk.2) (.int .i64 t229)) (fun _ hk => hk.2) (.int .i64 t230)) (fun _ hk => ⟨hk.1.1.1.1, ⟨hk.1.1.1.2, ⟨hk.1.1.2, hk.1.2⟩⟩⟩)))⟩; have n1_ : Aside0 (Kd.S k41 41 w25 w.heap.size (fun k_ => (w.heap.size ≤ k_) ∧ some k_ ≠ (.slice Ao24 t223.length co24 : Value).ownBlock ∧ k_ ≠ gb231) u5 x5_3) := ⟨(by rw [hw]; exact (by (with_reducible repeat (first | apply Kd.S_alloc | apply Kd.S_drewN | apply Kd.S_drew)); exact Kd.S_mono (Kd.S_far (p := ⟨gb231, 10, none⟩) (Kd.S_far (p := ⟨gb231, 9, none⟩) (Kd.S_far (p := ⟨gb231, 8, none⟩) (Kd.S_far (p := ⟨gb231, 7, none⟩) (Kd.S_far (p := ⟨gb231, 6, none⟩) (Kd.S_far (p := ⟨gb231, 5, none⟩) (Kd.S_far (p := ⟨gb231, 4, none⟩) (Kd.S_far (p := ⟨gb231, 3, none⟩) (Kd.S_far (p := ⟨gb231, 2, none⟩) (Kd.S_far (p := ⟨gb231, 1, none⟩) (Kd.S_far (p := ⟨gb231, 0, none⟩) (Kd.S_mono HO_5.out (fun k_ hk => (⟨hk, hk.2⟩ : _ ∧ k_ ≠ gb231))) (fun _ hk => hk.2) (.int .i64 t218)) (fun _ hk => hk.2) (.int .i64 t219)) (fun _ hk => hk.2) (.int .i64 t220)) (fun _ hk => hk.2) (.int .i64 t221)) (fun _ hk => hk.2) (.string t222)) (fun _ hk => hk.2) (.slice Ao24 t223.length co24)) (fun _ hk => hk.2) (.int .u16 t226)) (fun _ hk => hk.2) (.int .u16 t227)) (fun _ hk => hk.2) (.int .u16 t228)) (fun _ hk => hk.2) (.int .i64 t229)) (fun _ hk => hk.2) (.int .i64 t230)) (fun _ hk => ⟨hk.1.1.1, ⟨hk.1.1.2, hk.1.2⟩⟩)))⟩; have n2_ : Aside0 (Kd.V (Kd.int .u8) 5 w25 w.heap.size (fun k_ => (P0_ k_ ∨ w.heap.size ≤ k_) ∧ some k_ ≠ (u5 : Value).ownBlock ∧ some k_ ≠ (.slice Ao24 t223.length co24 : Value).ownBlock ∧ k_ ≠ gb231) (.slice Ao10 y213.length co10) y213) := ⟨(by rw [hw]; exact (by (with_reducible repeat (first | apply Kd.V_alloc | apply Kd.V_drewN | apply Kd.V_drew)); exact Kd.V_mono (Kd.V_far (p := ⟨gb231, 10, none⟩) (Kd.V_far (p := ⟨gb231, 9, none⟩) (Kd.V_far (p := ⟨gb231, 8, none⟩) (Kd.V_far (p := ⟨gb231, 7, none⟩) (Kd.V_far (p := ⟨gb231, 6, none⟩) (Kd.V_far (p := ⟨gb231, 5, none⟩) (Kd.V_far (p := ⟨gb231, 4, none⟩) (Kd.V_far (p := ⟨gb231, 3, none⟩) (Kd.V_far (p := ⟨gb231, 2, none⟩) (Kd.V_far (p := ⟨gb231, 1, none⟩) (Kd.V_far (p := ⟨gb231, 0, none⟩) (Kd.V_mono HO217.out (fun k_ hk => (⟨hk, hk.2⟩ : _ ∧ k_ ≠ gb231))) (fun _ hk => hk.2) (.int .i64 t218)) (fun _ hk => hk.2) (.int .i64 t219)) (fun _ hk => hk.2) (.int .i64 t220)) (fun _ hk => hk.2) (.int .i64 t221)) (fun _ hk => hk.2) (.string t222)) (fun _ hk => hk.2) (.slice Ao24 t223.length co24)) (fun _ hk => hk.2) (.int .u16 t226)) (fun _ hk => hk.2) (.int .u16 t227)) (fun _ hk => hk.2) (.int .u16 t228)) (fun _ hk => hk.2) (.int .i64 t229)) (fun _ hk => hk.2) (.int .i64 t230)) (fun _ hk => ⟨hk.1.1.1.1, ⟨hk.1.1.1.2, ⟨hk.1.1.2, hk.1.2⟩⟩⟩)))⟩; have n3_ : Aside0 (Kd.R (Kd.int .i64) 3 w25 w.heap.size (fun k_ => (w.heap.size ≤ k_)) (.slice Ao24 t223.length co24) t223) := ⟨(by rw [hw]; exact (by (with_reducible repeat (first | apply Kd.R_alloc | apply Kd.R_drewN | apply Kd.R_drew)); exact Kd.R_mono (Kd.R_far (p := ⟨gb231, 10, none⟩) (Kd.R_far (p := ⟨gb231, 9, none⟩) (Kd.R_far (p := ⟨gb231, 8, none⟩) (Kd.R_far (p := ⟨gb231, 7, none⟩) (Kd.R_far (p := ⟨gb231, 6, none⟩) (Kd.R_far (p := ⟨gb231, 5, none⟩) (Kd.R_far (p := ⟨gb231, 4, none⟩) (Kd.R_far (p := ⟨gb231, 3, none⟩) (Kd.R_far (p := ⟨gb231, 2, none⟩) (Kd.R_far (p := ⟨gb231, 1, none⟩) (Kd.R_far (p := ⟨gb231, 0, none⟩) (Kd.R_types HO225.out BK231.out (by decide)) (fun _ hk => hk.2) (.int .i64 t218)) (fun _ hk => hk.2) (.int .i64 t219)) (fun _ hk => hk.2) (.int .i64 t220)) (fun _ hk => hk.2) (.int .i64 t221)) (fun _ hk => hk.2) (.string t222)) (fun _ hk => hk.2) (.slice Ao24 t223.length co24)) (fun _ hk => hk.2) (.int .u16 t226)) (fun _ hk => hk.2) (.int .u16 t227)) (fun _ hk => hk.2) (.int .u16 t228)) (fun _ hk => hk.2) (.int .i64 t229)) (fun _ hk => hk.2) (.int .i64 t230)) (fun _ hk => hk.1.1)))⟩; have n4_ : Aside0 (w25.heap[gb231]? = some (.cells #[.int .i64 t218, .int .i64 t219, .int .i64 t220, .int .i64 t221, .string t222, .slice Ao24 t223.length co24, .int .u16 t226, .int .u16 t227, .int .u16 t228, .int .i64 t229, .int .i64 t230] 41 (0, 0))) := ⟨(by rw [hw]; exact (by (with_reducible repeat (first | refine blk_drewN ?_ _ | refine blk_drew ?_ | refine blk_alloc ?_ _)); exact Kd.ch11_blk BK231.out _ _ _ _ _ _ _ _ _ _ _))⟩; have n5_ : Aside0 (Below w.heap.size w w25) := ⟨(by rw [hw]; exact (by repeat (first | (with_reducible first | exact HB.out | apply below_alloc | apply pw_below_drewN | apply below_drew1 | refine below_set ?_ GE231.out) | exact HB.out)))⟩; clear hw; clear HO_0; clear HO_5; clear HO217; clear HO225; clear BK231; clear HB; have HO_0 := n0_; have HO_5 := n1_; have HO217 := n2_; have HO225 := n3_; have BK231 := n4_; have HB := n5_; clear n0_ n1_ n2_ n3_ n4_ n5_; have hcz26_0 : w25.cell? ⟨gb231, 0, none⟩ = some (.int .i64 t218) := (blk_cell BK231.out 0).trans rfl; have hcz26_1 : w25.cell? ⟨gb231, 1, none⟩ = some (.int .i64 t219) := (blk_cell BK231.out 1).trans rfl; have hcz26_2 : w25.cell? ⟨gb231, 2, none⟩ = some (.int .i64 t220) := (blk_cell BK231.out 2).trans rfl; have hcz26_3 : w25.cell? ⟨gb231, 3, none⟩ = some (.int .i64 t221) := (blk_cell BK231.out 3).trans rfl; have hcz26_4 : w25.cell? ⟨gb231, 4, none⟩ = some (.string t222) := (blk_cell BK231.out 4).trans rfl; have hcz26_5 : w25.cell? ⟨gb231, 5, none⟩ = some (.slice Ao24 t223.length co24) := (blk_cell BK231.out 5).trans rfl; have hcz26_6 : w25.cell? ⟨gb231, 6, none⟩ = some (.int .u16 t226) := (blk_cell BK231.out 6).trans rfl; have hcz26_7 : w25.cell? ⟨gb231, 7, none⟩ = some (.int .u16 t227) := (blk_cell BK231.out 7).trans rfl; have hcz26_8 : w25.cell? ⟨gb231, 8, none⟩ = some (.int .u16 t228) := (blk_cell BK231.out 8).trans rfl; have hcz26_9 : w25.cell? ⟨gb231, 9, none⟩ = some (.int .i64 t229) := (blk_cell BK231.out 9).trans rfl; have hcz26_10 : w25.cell? ⟨gb231, 10, none⟩ = some (.int .i64 t230) := (blk_cell BK231.out 10).trans rfl; have hfz26_0 := blk_frozen BK231.out 0; have hfz26_1 := blk_frozen BK231.out 1; have hfz26_2 := blk_frozen BK231.out 2; have hfz26_3 := blk_frozen BK231.out 3; have hfz26_4 := blk_frozen BK231.out 4; have hfz26_5 := blk_frozen BK231.out 5; have hfz26_6 := blk_frozen BK231.out 6; have hfz26_7 := blk_frozen BK231.out 7; have hfz26_8 := blk_frozen BK231.out 8; have hfz26_9 := blk_frozen BK231.out 9; have hfz26_10 := blk_frozen BK231.out 10) | ((with_reducible refine gate_builtin (b := .append) (xs := #[.tmp 35, .tmp 37]) rfl ?_); (try (refine gate_guard (by rfl) ?_; dsimp only)); at_builtin; refine Kd.S_append k41 (w0 := w) w.heap.size rfl (.tmp 35) (.tmp 37) 25 41 (.agg #[(.int .i64 0), (.int .i64 0), (.int .i64 0), (.int .i64 0), (.string ⟨#[]⟩), (.slice none 0 0), (.int .u16 0), (.int .u16 0), (.int .u16 0), (.int .i64 0), (.int .i64 0)]) 96 rfl Try.underlying25 info41 rfl (by decide) (by omega) u5 x5_3 (⟨t218, t219, t220, t221, t222, t223, (⟨t226, t227, t228, t229, t230⟩ : S39)⟩ : S41) [.int .i64 t218, .int .i64 t219, .int .i64 t220, .int .i64 t221, .string t222, .slice Ao24 t223.length co24, .int .u16 t226, .int .u16 t227, .int .u16 t228, .int .i64 t229, .int .i64 t230] (fun k_ => (w.heap.size ≤ k_) ∧ k_ ≠ gb231) (fun k_ => some k_ = (.slice Ao24 t223.length co24 : Value).ownBlock) rfl rfl ?aP (fun k_ hk_ => ((Kd.R_mono (ok' := fun k_ => ((fun k_ => (w.heap.size ≤ k_) ∧ k_ ≠ gb231)) k_ ∧ some k_ ≠ (u5 : Value).ownBlock) (Kd.R_types (Kd.R_apart' (HO225.out) (Kd.S_typed HO_5.out) (by decide)) BK231.out (by decide)) (fun k_ hk => ⟨⟨hk.1.1, hk.2⟩, hk.1.2⟩))).1 k_ hk_.symm) ?aF ?aO ?aB ?aS ?aL ?_; (case aP => exact k41_mkM _ _ _ (⟨t218, t219, t220, t221, t222, t223, (⟨t226, t227, t228, t229, t230⟩ : S39)⟩ : S41) (Kd.R_mono (Kd.R_tight rfl (Kd.R_mono (ok' := fun k_ => ((fun k_ => (w.heap.size ≤ k_) ∧ k_ ≠ gb231)) k_ ∧ some k_ ≠ (u5 : Value).ownBlock) (Kd.R_types (Kd.R_apart' (HO225.out) (Kd.S_typed HO_5.out) (by decide)) BK231.out (by decide)) (fun k_ hk => ⟨⟨hk.1.1, hk.2⟩, hk.1.2⟩))) (fun _ h_ => h_))); (case aB => exact (by repeat (first | (with_reducible first | exact HB.out | apply below_alloc | apply pw_below_drewN | apply below_drew1 | refine below_set ?_ GE231.out) | exact HB.out))); (case aF => exact (fun k_ hk => ⟨(Nat.le_trans (below_size (by repeat (first | (with_reducible first | exact HB.out | apply below_alloc | apply pw_below_drewN | apply below_drew1 | refine below_set ?_ GE231.out) | exact HB.out))) hk), Kd.freshB (g := gb231) (o := .cells #[.int .i64 t218, .int .i64 t219, .int .i64 t220, .int .i64 t221, .string t222, .slice Ao24 t223.length co24, .int .u16 t226, .int .u16 t227, .int .u16 t228, .int .i64 t229, .int .i64 t230] 41 (0, 0)) (by (with_reducible repeat (first | refine blk_drewN ?_ _ | refine blk_drew ?_ | refine blk_alloc ?_ _)); exact BK231.out) k_ hk⟩)); (case aO => exact (by (with_reducible repeat (first | apply Kd.S_alloc | apply Kd.S_drewN | apply Kd.S_drew)); exact Kd.S_mono HO_5.out (fun k_ hk => ⟨⟨hk.1, hk.2.2⟩, fun e_ => hk.2.1 e_⟩))); (case aS => exact (below_size (by repeat (first | (with_reducible first | exact HB.out | apply below_alloc | apply pw_below_drewN | apply below_drew1 | refine below_set ?_ GE231.out) | exact HB.out)))); (case aL => have := LMc17.out; omega); intro v233 w27 ho hb hg hat; rw [← Ny232.out] at ho; have n0_ := Aside0.mk (Kd.V_afterv (ok := (fun k_ => (P0_ k_ ∨ w.heap.size ≤ k_) ∧ some k_ ≠ (.slice Ao24 t223.length co24 : Value).ownBlock ∧ k_ ≠ gb231)) (by (with_reducible repeat (first | apply Kd.V_alloc | apply Kd.V_drewN | apply Kd.V_drew)); exact Kd.V_mono HO_0.out (fun _ hk => ⟨⟨hk.1, ⟨hk.2.2.1, hk.2.2.2⟩⟩, hk.2.1⟩)) hg hat); have n1_ := Aside0.mk (Kd.V_afterv (ok := (fun k_ => (P0_ k_ ∨ w.heap.size ≤ k_) ∧ some k_ ≠ (.slice Ao24 t223.length co24 : Value).ownBlock ∧ k_ ≠ gb231)) (by (with_reducible repeat (first | apply Kd.V_alloc | apply Kd.V_drewN | apply Kd.V_drew)); exact Kd.V_mono HO217.out (fun _ hk => ⟨⟨hk.1, ⟨hk.2.2.1, hk.2.2.2⟩⟩, hk.2.1⟩)) hg hat); have n2_ := Aside0.mk (blk_grown (g := gb231) (o := .cells #[.int .i64 t218, .int .i64 t219, .int .i64 t220, .int .i64 t221, .string t222, .slice Ao24 t223.length co24, .int .u16 t226, .int .u16 t227, .int .u16 t228, .int .i64 t229, .int .i64 t230] 41 (0, 0)) (by (with_reducible repeat (first | refine blk_drewN ?_ _ | refine blk_drew ?_ | refine blk_alloc ?_ _)); exact BK231.out) hg (Kd.S_away HO_5.out (fun _ hk => hk.2.2))); have n3_ := Aside0.mk (hb); have n4_ := Aside0.mk (ho); clear HO_0; clear HO217; clear BK231; clear HB; clear HO_5; clear HO225; have HO_0 := n0_; have HO217 := n1_; have BK231 := n2_; have HB := n3_; have HO234 := n4_; clear n0_ n1_ n2_ n3_ n4_; clear ho hb hg hat; have q28 : (t212 : Int) ≤ ((x0_3.length : Int) : Int) := of_decide_eq_true (by first | (with_reducible assumption) | assumption); obtain ⟨i028, hi028, _, hsz28, _⟩ := info_parts info5; have hroom28 : x0_3.length ≤ co10 := (Kd.V_reads' HO_0.out).2.1; have hC28 : Kd.F (Kd.int .u8) _ _ Ao10 x0_3.length x0_3 := (Kd.V_at (base := w.heap.size) HO_0.out).2.2; have q028 : (0 : Int) ≤ (t212 : Int) := of_decide_eq_true (by first | (with_reducible assumption) | assumption); have hcut28 := cut_from (P := Try.prog) 22 5 .i64 Try.underlying22 hi028 1 hsz28 Ao10 x0_3.length co10 t212 q028 q28; have hr28 := Kd.F_cut (m := (t212 : Int).toNat) (c := co10) hC28 (by omega) hroom28; obtain ⟨A28, hA28⟩ : ∃ A1, A1 = (if co10 = (t212 : Int).toNat then Ao10 else (Ao10 : Option Addr).map (·.add ((t212 : Int).toNat * 1))) := ⟨_, rfl⟩; obtain ⟨c28, hc28⟩ : ∃ c1, c1 = co10 - (t212 : Int).toNat := ⟨_, rfl⟩; have hy28 : y235.length = x0_3.length - (t212 : Int).toNat := (by rw [Ny235.out, List.length_drop] <;> omega); rw [show (x0_3).drop (t212 : Int).toNat = y235 from Ny235.out.symm] at hr28; replace hr28 : Kd.F (Kd.int .u8) _ _ A28 y235.length y235 := (by rw [hA28]; exact hr28); rw [← hy28, ← hA28, ← hc28] at hcut28; have HO239 := Aside0.mk (show Kd.V (Kd.int .u8) 5 _ w.heap.size _ (.slice A28 y235.length c28) y235 from Kd.V_mk (by rw [hy28, hc28]; exact Nat.sub_le_sub_right hroom28 _) hr28); have HC239 := Aside0.mk (show y235.length ≤ c28 from by rw [hy28, hc28]; exact Nat.sub_le_sub_right hroom28 _); clear hr28 hC28 hroom28 hi028 hsz28 hc28; have KY28 := Aside0.mk hy28; have KA28 := Aside0.mk hA28; clear hy28 hA28; replace q28 := eq_true q28))
               go_roundg kj8
               case measure => have := HJ2.out; have := HJ4.out; have := HK3.out; have := HJ8.out; omega
               case rel => exact ⟨(y235), (y232), H', ⟨by have := HJ2.out; have := HJ4.out; have := HK3.out; have := HJ8.out; omega⟩, ⟨by (with_reducible repeat (first | apply Kd.V_alloc | apply Kd.V_drewN | apply Kd.V_drew)); exact Kd.V_mono HO239.out (fun _ hk => ⟨hk.1.1, hk.2⟩)⟩, ⟨by (with_reducible repeat (first | apply Kd.S_alloc | apply Kd.S_drewN | apply Kd.S_drew)); exact Kd.S_mono HO234.out (fun _ hk => hk.1)⟩, ⟨by repeat (first | (with_reducible first | exact HB.out | apply below_alloc | apply pw_below_drewN | apply below_drew1 | refine below_set ?_ GE231.out) | exact HB.out)⟩⟩
              ·rw [if_neg c17] at H
               exact absurd H (by simp)
             ·rw [if_neg c16] at H
              have c16b0 : decide (0 < t218) = false := decide_eq_false c16
              clear c16
              have c29b0 := eq_true (of_decide_eq_true (by first | (with_reducible assumption) | assumption) : 0 ≤ t212)
              have c30b0 := eq_true (of_decide_eq_true (by first | (with_reducible assumption) | assumption) : t212 ≤ (x0_3.length : Int))
              obtain ⟨y240, hy240⟩ : ∃ y_ : List Int, y_ = (x0_3.drop (t212 : Int).toNat) := ⟨_, rfl⟩
              replace H : (antipoderef29_Decode.l0 kj8 y240 x1_4 x5_3) = some r := by first | (rw [hy240]; with_reducible exact H) | (have H2_ := (Option.bind_some _ _).symm.trans H; rw [hy240]; with_reducible exact H2_) | (have H2_ := (Option.bind_some _ _).symm.trans H; with_reducible exact H2_) | with_reducible exact H | (rw [hy240]; exact H) | exact H
              have Ny240 := Aside0.mk hy240
              clear hy240
              have H' := Aside0.mk H
              clear H
              have q31 : (t212 : Int) ≤ ((x0_3.length : Int) : Int) := of_decide_eq_true (by first | (with_reducible assumption) | assumption)
              obtain ⟨i031, hi031, _, hsz31, _⟩ := info_parts info5
              have hroom31 : x0_3.length ≤ co10 := (Kd.V_reads' HO_0.out).2.1
              have hC31 : Kd.F (Kd.int .u8) _ _ Ao10 x0_3.length x0_3 := (Kd.V_at (base := w.heap.size) HO_0.out).2.2
              have hcut31 := cut_to (P := Try.prog) 22 5 .i64 Try.underlying22 hi031 Ao10 x0_3.length co10 t212 (of_decide_eq_true (by first | (with_reducible assumption) | assumption)) q31 hroom31
              have hr31 := Kd.F_take (m := (t212 : Int).toNat) hC31 (by omega)
              have hy31 : y213.length = (t212 : Int).toNat := (by rw [Ny213.out, List.length_take]; omega)
              rw [← Ny213.out] at hr31
              rw [← hy31] at hcut31
              have HO217 := Aside0.mk (show Kd.V (Kd.int .u8) 5 _ w.heap.size _ (.slice Ao10 y213.length co10) y213 from Kd.V_mk (by omega) hr31)
              have HC217 := Aside0.mk (show y213.length ≤ co10 from by omega)
              clear hr31 hC31 hroom31 hi031 hsz31
              have KY31 := Aside0.mk hy31
              clear hy31
              replace q31 := eq_true q31
              go_wp2_with (first | ((with_reducible refine gate_callee (f := 20) rfl ?_); refine goesL_ (some 31) rfl rfl Try.func20 (by kernel_rfl) rfl #[.slice Ao10 y213.length co10, .int .i64 x1_4] rfl (by (try simp only [List.map_toArray, List.map_cons, List.map_nil]); first | done | rfl | (simp only [List.length_drop, List.length_take]; rfl)) ?_; (with_reducible refine (antipoderef29_one.calls kj8 _ _ y213 x1_4 t218 t219 t220 t221 t222 t223 t226 t227 t228 t229 t230 _ ?side1 ?side2 A15.out).mono ?_); (case side1 => repeat (first | exact (Kd.V_reads' HO217.out).2.2 | (with_reducible refine Kd.C_alloc ?_ _) | (with_reducible refine Kd.C_drewN ?_ _) | (with_reducible refine Kd.C_drew ?_))); (case side2 => exact (Kd.V_reads' HO217.out).2.1); rintro e w32 ⟨v224, rfl, ho0, hb⟩; refine ⟨_, rfl, ?_⟩; have n0_ := Aside0.mk (Kd.V_elder' (by (with_reducible repeat (first | apply Kd.V_alloc | apply Kd.V_drewN | apply Kd.V_drew)); exact HO_0.out) (Kd.R_base ho0) hb); have n1_ := Aside0.mk (Kd.S_elder' (by (with_reducible repeat (first | apply Kd.S_alloc | apply Kd.S_drewN | apply Kd.S_drew)); exact HO_5.out) (Kd.R_base ho0) hb); have n2_ := Aside0.mk (Kd.V_elder' (by (with_reducible repeat (first | apply Kd.V_alloc | apply Kd.V_drewN | apply Kd.V_drew)); exact HO217.out) (Kd.R_base ho0) hb); have n3_ := Aside0.mk (Kd.R_lower (Kd.R_newM (M := fun k_ => (w.heap.size ≤ k_)) ho0 (below_size (by repeat (first | (with_reducible first | exact HB.out | apply below_alloc | apply pw_below_drewN | apply below_drew1) | exact HB.out))) (fun k_ h_ => h_)) (below_size (by repeat (first | (with_reducible first | exact HB.out | apply below_alloc | apply pw_below_drewN | apply below_drew1) | exact HB.out)))); have n4_ := Aside0.mk (below_step (by repeat (first | (with_reducible first | exact HB.out | apply below_alloc | apply pw_below_drewN | apply below_drew1) | exact HB.out)) hb); clear HO_0; clear HO_5; clear HO217; clear HB; have HO_0 := n0_; have HO_5 := n1_; have HO217 := n2_; have HO225 := n3_; have HB := n4_; clear n0_ n1_ n2_ n3_ n4_; (try clear hb); (try clear hb2); (try clear hk); (try clear hi); (try clear ho0)) | ((with_reducible refine gate_dst (N := 7) rfl ?_); (try (refine gate_guard (by rfl) ?_; dsimp only)); refine box_event ?hg (N := 7) ?hd (cs := #[.int .i64 0, .int .i64 0, .int .i64 0, .int .i64 0, .string (⟨#[]⟩ : ByteArray), .slice none 0 0, .int .u16 0, .int .u16 0, .int .u16 0, .int .i64 0, .int .i64 0]) (t := 41) ?hr ?_; (case hd => rfl); (case hg => rfl); (case hr => first | (go_simp; done) | (go_simp; rfl)); intro gb231 hg w33 hbox hb; have n0_ := Aside0.mk (Kd.V_below (Kd.V_elderB (by (with_reducible repeat (first | apply Kd.V_alloc | apply Kd.V_drewN | apply Kd.V_drew)); exact HO_0.out) gb231 (Nat.le_of_eq hg.symm)) hb); have n1_ := Aside0.mk (Kd.S_below (Kd.S_elderB (by (with_reducible repeat (first | apply Kd.S_alloc | apply Kd.S_drewN | apply Kd.S_drew)); exact HO_5.out) gb231 (Nat.le_of_eq hg.symm)) hb); have n2_ := Aside0.mk (Kd.V_below (Kd.V_elderB (by (with_reducible repeat (first | apply Kd.V_alloc | apply Kd.V_drewN | apply Kd.V_drew)); exact HO217.out) gb231 (Nat.le_of_eq hg.symm)) hb); have n3_ := Aside0.mk (Kd.R_below (by (with_reducible repeat (first | apply Kd.R_alloc | apply Kd.R_drewN | apply Kd.R_drew)); exact HO225.out) hb); have n4_ := Aside0.mk (below_step (by repeat (first | (with_reducible first | exact HB.out | apply below_alloc | apply pw_below_drewN | apply below_drew1) | exact HB.out)) hb); have n5_ := Aside0.mk (hbox); have n6_ := Aside0.mk ((by rw [hg]; exact (below_size (by repeat (first | (with_reducible first | exact HB.out | apply below_alloc | apply pw_below_drewN | apply below_drew1) | exact HB.out))) : w.heap.size ≤ gb231)); have n7_ := Aside0.mk ((by rw [hg]; exact (below_size (by repeat (first | (with_reducible first | exact HB.out | apply below_alloc | apply pw_below_drewN | apply below_drew1) | exact HB.out))) : w.heap.size ≤ gb231)); clear HO_0; clear HO_5; clear HO217; clear HO225; clear HB; have HO_0 := n0_; have HO_5 := n1_; have HO217 := n2_; have HO225 := n3_; have HB := n4_; have BK231 := n5_; have GW231 := n6_; have GE231 := n7_; clear n0_ n1_ n2_ n3_ n4_ n5_ n6_ n7_; clear hb hbox hg; have hcz34_0 : w33.cell? ⟨gb231, 0, none⟩ = some (.int .i64 0) := (blk_cell BK231.out 0).trans rfl; have hcz34_1 : w33.cell? ⟨gb231, 1, none⟩ = some (.int .i64 0) := (blk_cell BK231.out 1).trans rfl; have hcz34_2 : w33.cell? ⟨gb231, 2, none⟩ = some (.int .i64 0) := (blk_cell BK231.out 2).trans rfl; have hcz34_3 : w33.cell? ⟨gb231, 3, none⟩ = some (.int .i64 0) := (blk_cell BK231.out 3).trans rfl; have hcz34_4 : w33.cell? ⟨gb231, 4, none⟩ = some (.string (⟨#[]⟩ : ByteArray)) := (blk_cell BK231.out 4).trans rfl; have hcz34_5 : w33.cell? ⟨gb231, 5, none⟩ = some (.slice none 0 0) := (blk_cell BK231.out 5).trans rfl; have hcz34_6 : w33.cell? ⟨gb231, 6, none⟩ = some (.int .u16 0) := (blk_cell BK231.out 6).trans rfl; have hcz34_7 : w33.cell? ⟨gb231, 7, none⟩ = some (.int .u16 0) := (blk_cell BK231.out 7).trans rfl; have hcz34_8 : w33.cell? ⟨gb231, 8, none⟩ = some (.int .u16 0) := (blk_cell BK231.out 8).trans rfl; have hcz34_9 : w33.cell? ⟨gb231, 9, none⟩ = some (.int .i64 0) := (blk_cell BK231.out 9).trans rfl; have hcz34_10 : w33.cell? ⟨gb231, 10, none⟩ = some (.int .i64 0) := (blk_cell BK231.out 10).trans rfl; have hfz34_0 := blk_frozen BK231.out 0; have hfz34_1 := blk_frozen BK231.out 1; have hfz34_2 := blk_frozen BK231.out 2; have hfz34_3 := blk_frozen BK231.out 3; have hfz34_4 := blk_frozen BK231.out 4; have hfz34_5 := blk_frozen BK231.out 5; have hfz34_6 := blk_frozen BK231.out 6; have hfz34_7 := blk_frozen BK231.out 7; have hfz34_8 := blk_frozen BK231.out 8; have hfz34_9 := blk_frozen BK231.out 9; have hfz34_10 := blk_frozen BK231.out 10; obtain ⟨Ao35, co35, eo35⟩ := Kd.R_slice HO225.out; subst eo35) | ((with_reducible refine gate_store (t := 41) (p := 7) rfl ?_); refine store_event (t := 41) (p := 7) (v := ?vo_w36) (w1 := (((((((((((w33.setCell ⟨gb231, 0, none⟩ (.int .i64 t218)).setCell ⟨gb231, 1, none⟩ (.int .i64 t219)).setCell ⟨gb231, 2, none⟩ (.int .i64 t220)).setCell ⟨gb231, 3, none⟩ (.int .i64 t221)).setCell ⟨gb231, 4, none⟩ (.string t222)).setCell ⟨gb231, 5, none⟩ (.slice Ao35 t223.length co35)).setCell ⟨gb231, 6, none⟩ (.int .u16 t226)).setCell ⟨gb231, 7, none⟩ (.int .u16 t227)).setCell ⟨gb231, 8, none⟩ (.int .u16 t228)).setCell ⟨gb231, 9, none⟩ (.int .i64 t229)).setCell ⟨gb231, 10, none⟩ (.int .i64 t230))) ?hg ?ho ?hn ?hr ?_; (case ho => rfl); (case hg => rfl); (case hn => rfl); (case hr => first | (go_simp; done) | (go_simp; rfl)); intro w36 hw; have n0_ : Aside0 (Kd.V (Kd.int .u8) 5 w36 w.heap.size (fun k_ => (P0_ k_ ∨ w.heap.size ≤ k_) ∧ some k_ ≠ (u5 : Value).ownBlock ∧ some k_ ≠ (.slice Ao35 t223.length co35 : Value).ownBlock ∧ k_ ≠ gb231) (.slice Ao10 x0_3.length co10) x0_3) := ⟨(by rw [hw]; exact (by (with_reducible repeat (first | apply Kd.V_alloc | apply Kd.V_drewN | apply Kd.V_drew)); exact Kd.V_mono (Kd.V_far (p := ⟨gb231, 10, none⟩) (Kd.V_far (p := ⟨gb231, 9, none⟩) (Kd.V_far (p := ⟨gb231, 8, none⟩) (Kd.V_far (p := ⟨gb231, 7, none⟩) (Kd.V_far (p := ⟨gb231, 6, none⟩) (Kd.V_far (p := ⟨gb231, 5, none⟩) (Kd.V_far (p := ⟨gb231, 4, none⟩) (Kd.V_far (p := ⟨gb231, 3, none⟩) (Kd.V_far (p := ⟨gb231, 2, none⟩) (Kd.V_far (p := ⟨gb231, 1, none⟩) (Kd.V_far (p := ⟨gb231, 0, none⟩) (Kd.V_mono HO_0.out (fun k_ hk => (⟨hk, hk.2⟩ : _ ∧ k_ ≠ gb231))) (fun _ hk => hk.2) (.int .i64 t218)) (fun _ hk => hk.2) (.int .i64 t219)) (fun _ hk => hk.2) (.int .i64 t220)) (fun _ hk => hk.2) (.int .i64 t221)) (fun _ hk => hk.2) (.string t222)) (fun _ hk => hk.2) (.slice Ao35 t223.length co35)) (fun _ hk => hk.2) (.int .u16 t226)) (fun _ hk => hk.2) (.int .u16 t227)) (fun _ hk => hk.2) (.int .u16 t228)) (fun _ hk => hk.2) (.int .i64 t229)) (fun _ hk => hk.2) (.int .i64 t230)) (fun _ hk => ⟨hk.1.1.1.1, ⟨hk.1.1.1.2, ⟨hk.1.1.2, hk.1.2⟩⟩⟩)))⟩; have n1_ : Aside0 (Kd.S k41 41 w36 w.heap.size (fun k_ => (w.heap.size ≤ k_) ∧ some k_ ≠ (.slice Ao35 t223.length co35 : Value).ownBlock ∧ k_ ≠ gb231) u5 x5_3) := ⟨(by rw [hw]; exact (by (with_reducible repeat (first | apply Kd.S_alloc | apply Kd.S_drewN | apply Kd.S_drew)); exact Kd.S_mono (Kd.S_far (p := ⟨gb231, 10, none⟩) (Kd.S_far (p := ⟨gb231, 9, none⟩) (Kd.S_far (p := ⟨gb231, 8, none⟩) (Kd.S_far (p := ⟨gb231, 7, none⟩) (Kd.S_far (p := ⟨gb231, 6, none⟩) (Kd.S_far (p := ⟨gb231, 5, none⟩) (Kd.S_far (p := ⟨gb231, 4, none⟩) (Kd.S_far (p := ⟨gb231, 3, none⟩) (Kd.S_far (p := ⟨gb231, 2, none⟩) (Kd.S_far (p := ⟨gb231, 1, none⟩) (Kd.S_far (p := ⟨gb231, 0, none⟩) (Kd.S_mono HO_5.out (fun k_ hk => (⟨hk, hk.2⟩ : _ ∧ k_ ≠ gb231))) (fun _ hk => hk.2) (.int .i64 t218)) (fun _ hk => hk.2) (.int .i64 t219)) (fun _ hk => hk.2) (.int .i64 t220)) (fun _ hk => hk.2) (.int .i64 t221)) (fun _ hk => hk.2) (.string t222)) (fun _ hk => hk.2) (.slice Ao35 t223.length co35)) (fun _ hk => hk.2) (.int .u16 t226)) (fun _ hk => hk.2) (.int .u16 t227)) (fun _ hk => hk.2) (.int .u16 t228)) (fun _ hk => hk.2) (.int .i64 t229)) (fun _ hk => hk.2) (.int .i64 t230)) (fun _ hk => ⟨hk.1.1.1, ⟨hk.1.1.2, hk.1.2⟩⟩)))⟩; have n2_ : Aside0 (Kd.V (Kd.int .u8) 5 w36 w.heap.size (fun k_ => (P0_ k_ ∨ w.heap.size ≤ k_) ∧ some k_ ≠ (u5 : Value).ownBlock ∧ some k_ ≠ (.slice Ao35 t223.length co35 : Value).ownBlock ∧ k_ ≠ gb231) (.slice Ao10 y213.length co10) y213) := ⟨(by rw [hw]; exact (by (with_reducible repeat (first | apply Kd.V_alloc | apply Kd.V_drewN | apply Kd.V_drew)); exact Kd.V_mono (Kd.V_far (p := ⟨gb231, 10, none⟩) (Kd.V_far (p := ⟨gb231, 9, none⟩) (Kd.V_far (p := ⟨gb231, 8, none⟩) (Kd.V_far (p := ⟨gb231, 7, none⟩) (Kd.V_far (p := ⟨gb231, 6, none⟩) (Kd.V_far (p := ⟨gb231, 5, none⟩) (Kd.V_far (p := ⟨gb231, 4, none⟩) (Kd.V_far (p := ⟨gb231, 3, none⟩) (Kd.V_far (p := ⟨gb231, 2, none⟩) (Kd.V_far (p := ⟨gb231, 1, none⟩) (Kd.V_far (p := ⟨gb231, 0, none⟩) (Kd.V_mono HO217.out (fun k_ hk => (⟨hk, hk.2⟩ : _ ∧ k_ ≠ gb231))) (fun _ hk => hk.2) (.int .i64 t218)) (fun _ hk => hk.2) (.int .i64 t219)) (fun _ hk => hk.2) (.int .i64 t220)) (fun _ hk => hk.2) (.int .i64 t221)) (fun _ hk => hk.2) (.string t222)) (fun _ hk => hk.2) (.slice Ao35 t223.length co35)) (fun _ hk => hk.2) (.int .u16 t226)) (fun _ hk => hk.2) (.int .u16 t227)) (fun _ hk => hk.2) (.int .u16 t228)) (fun _ hk => hk.2) (.int .i64 t229)) (fun _ hk => hk.2) (.int .i64 t230)) (fun _ hk => ⟨hk.1.1.1.1, ⟨hk.1.1.1.2, ⟨hk.1.1.2, hk.1.2⟩⟩⟩)))⟩; have n3_ : Aside0 (Kd.R (Kd.int .i64) 3 w36 w.heap.size (fun k_ => (w.heap.size ≤ k_)) (.slice Ao35 t223.length co35) t223) := ⟨(by rw [hw]; exact (by (with_reducible repeat (first | apply Kd.R_alloc | apply Kd.R_drewN | apply Kd.R_drew)); exact Kd.R_mono (Kd.R_far (p := ⟨gb231, 10, none⟩) (Kd.R_far (p := ⟨gb231, 9, none⟩) (Kd.R_far (p := ⟨gb231, 8, none⟩) (Kd.R_far (p := ⟨gb231, 7, none⟩) (Kd.R_far (p := ⟨gb231, 6, none⟩) (Kd.R_far (p := ⟨gb231, 5, none⟩) (Kd.R_far (p := ⟨gb231, 4, none⟩) (Kd.R_far (p := ⟨gb231, 3, none⟩) (Kd.R_far (p := ⟨gb231, 2, none⟩) (Kd.R_far (p := ⟨gb231, 1, none⟩) (Kd.R_far (p := ⟨gb231, 0, none⟩) (Kd.R_types HO225.out BK231.out (by decide)) (fun _ hk => hk.2) (.int .i64 t218)) (fun _ hk => hk.2) (.int .i64 t219)) (fun _ hk => hk.2) (.int .i64 t220)) (fun _ hk => hk.2) (.int .i64 t221)) (fun _ hk => hk.2) (.string t222)) (fun _ hk => hk.2) (.slice Ao35 t223.length co35)) (fun _ hk => hk.2) (.int .u16 t226)) (fun _ hk => hk.2) (.int .u16 t227)) (fun _ hk => hk.2) (.int .u16 t228)) (fun _ hk => hk.2) (.int .i64 t229)) (fun _ hk => hk.2) (.int .i64 t230)) (fun _ hk => hk.1.1)))⟩; have n4_ : Aside0 (w36.heap[gb231]? = some (.cells #[.int .i64 t218, .int .i64 t219, .int .i64 t220, .int .i64 t221, .string t222, .slice Ao35 t223.length co35, .int .u16 t226, .int .u16 t227, .int .u16 t228, .int .i64 t229, .int .i64 t230] 41 (0, 0))) := ⟨(by rw [hw]; exact (by (with_reducible repeat (first | refine blk_drewN ?_ _ | refine blk_drew ?_ | refine blk_alloc ?_ _)); exact Kd.ch11_blk BK231.out _ _ _ _ _ _ _ _ _ _ _))⟩; have n5_ : Aside0 (Below w.heap.size w w36) := ⟨(by rw [hw]; exact (by repeat (first | (with_reducible first | exact HB.out | apply below_alloc | apply pw_below_drewN | apply below_drew1 | refine below_set ?_ GE231.out) | exact HB.out)))⟩; clear hw; clear HO_0; clear HO_5; clear HO217; clear HO225; clear BK231; clear HB; have HO_0 := n0_; have HO_5 := n1_; have HO217 := n2_; have HO225 := n3_; have BK231 := n4_; have HB := n5_; clear n0_ n1_ n2_ n3_ n4_ n5_; have hcz37_0 : w36.cell? ⟨gb231, 0, none⟩ = some (.int .i64 t218) := (blk_cell BK231.out 0).trans rfl; have hcz37_1 : w36.cell? ⟨gb231, 1, none⟩ = some (.int .i64 t219) := (blk_cell BK231.out 1).trans rfl; have hcz37_2 : w36.cell? ⟨gb231, 2, none⟩ = some (.int .i64 t220) := (blk_cell BK231.out 2).trans rfl; have hcz37_3 : w36.cell? ⟨gb231, 3, none⟩ = some (.int .i64 t221) := (blk_cell BK231.out 3).trans rfl; have hcz37_4 : w36.cell? ⟨gb231, 4, none⟩ = some (.string t222) := (blk_cell BK231.out 4).trans rfl; have hcz37_5 : w36.cell? ⟨gb231, 5, none⟩ = some (.slice Ao35 t223.length co35) := (blk_cell BK231.out 5).trans rfl; have hcz37_6 : w36.cell? ⟨gb231, 6, none⟩ = some (.int .u16 t226) := (blk_cell BK231.out 6).trans rfl; have hcz37_7 : w36.cell? ⟨gb231, 7, none⟩ = some (.int .u16 t227) := (blk_cell BK231.out 7).trans rfl; have hcz37_8 : w36.cell? ⟨gb231, 8, none⟩ = some (.int .u16 t228) := (blk_cell BK231.out 8).trans rfl; have hcz37_9 : w36.cell? ⟨gb231, 9, none⟩ = some (.int .i64 t229) := (blk_cell BK231.out 9).trans rfl; have hcz37_10 : w36.cell? ⟨gb231, 10, none⟩ = some (.int .i64 t230) := (blk_cell BK231.out 10).trans rfl; have hfz37_0 := blk_frozen BK231.out 0; have hfz37_1 := blk_frozen BK231.out 1; have hfz37_2 := blk_frozen BK231.out 2; have hfz37_3 := blk_frozen BK231.out 3; have hfz37_4 := blk_frozen BK231.out 4; have hfz37_5 := blk_frozen BK231.out 5; have hfz37_6 := blk_frozen BK231.out 6; have hfz37_7 := blk_frozen BK231.out 7; have hfz37_8 := blk_frozen BK231.out 8; have hfz37_9 := blk_frozen BK231.out 9; have hfz37_10 := blk_frozen BK231.out 10; have q38 : (t212 : Int) ≤ ((x0_3.length : Int) : Int) := of_decide_eq_true (by first | (with_reducible assumption) | assumption); obtain ⟨i038, hi038, _, hsz38, _⟩ := info_parts info5; have hroom38 : x0_3.length ≤ co10 := (Kd.V_reads' HO_0.out).2.1; have hC38 : Kd.F (Kd.int .u8) _ _ Ao10 x0_3.length x0_3 := (Kd.V_at (base := w.heap.size) HO_0.out).2.2; have q038 : (0 : Int) ≤ (t212 : Int) := of_decide_eq_true (by first | (with_reducible assumption) | assumption); have hcut38 := cut_from (P := Try.prog) 22 5 .i64 Try.underlying22 hi038 1 hsz38 Ao10 x0_3.length co10 t212 q038 q38; have hr38 := Kd.F_cut (m := (t212 : Int).toNat) (c := co10) hC38 (by omega) hroom38; obtain ⟨A38, hA38⟩ : ∃ A1, A1 = (if co10 = (t212 : Int).toNat then Ao10 else (Ao10 : Option Addr).map (·.add ((t212 : Int).toNat * 1))) := ⟨_, rfl⟩; obtain ⟨c38, hc38⟩ : ∃ c1, c1 = co10 - (t212 : Int).toNat := ⟨_, rfl⟩; have hy38 : y240.length = x0_3.length - (t212 : Int).toNat := (by rw [Ny240.out, List.length_drop] <;> omega); rw [show (x0_3).drop (t212 : Int).toNat = y240 from Ny240.out.symm] at hr38; replace hr38 : Kd.F (Kd.int .u8) _ _ A38 y240.length y240 := (by rw [hA38]; exact hr38); rw [← hy38, ← hA38, ← hc38] at hcut38; have HO244 := Aside0.mk (show Kd.V (Kd.int .u8) 5 _ w.heap.size _ (.slice A38 y240.length c38) y240 from Kd.V_mk (by rw [hy38, hc38]; exact Nat.sub_le_sub_right hroom38 _) hr38); have HC244 := Aside0.mk (show y240.length ≤ c38 from by rw [hy38, hc38]; exact Nat.sub_le_sub_right hroom38 _); clear hr38 hC38 hroom38 hi038 hsz38 hc38; have KY38 := Aside0.mk hy38; have KA38 := Aside0.mk hA38; clear hy38 hA38; replace q38 := eq_true q38))
              go_roundg kj8
              case measure => have := HJ2.out; have := HJ4.out; have := HK3.out; have := HJ8.out; omega
              case rel => exact ⟨(y240), (x5_3), H', ⟨by have := HJ2.out; have := HJ4.out; have := HK3.out; have := HJ8.out; omega⟩, ⟨by (with_reducible repeat (first | apply Kd.V_alloc | apply Kd.V_drewN | apply Kd.V_drew)); exact Kd.V_mono HO244.out (fun _ hk => ⟨hk.1, hk.2.1⟩)⟩, ⟨by (with_reducible repeat (first | apply Kd.S_alloc | apply Kd.S_drewN | apply Kd.S_drew)); exact Kd.S_mono HO_5.out (fun _ hk => hk.1)⟩, ⟨by repeat (first | (with_reducible first | exact HB.out | apply below_alloc | apply pw_below_drewN | apply below_drew1 | refine below_set ?_ GE231.out) | exact HB.out)⟩⟩
            ·rw [if_neg c14] at H
             exact absurd H (by simp)
           ·rw [if_neg c13] at H
            exact absurd H (by simp)
       ·rw [if_neg c7] at H
        have c7b0 : decide (0 < (x0_3.length : Int)) = false := decide_eq_false c7
        have c7b1 : decide (0 < x0_3.length) = false := decide_eq_false (by omega)
        clear c7
        obtain rfl := Option.some.inj H
        obtain ⟨Ao39, co39, eo39⟩ := Kd.V_slice HO_0.out
        subst eo39
        go_wp2
        go_ret
        exact ⟨_, by first | rfl | (simp [errW_none, errW_some] <;> rfl) | (simp [*, errW_none, errW_some] <;> rfl), by (with_reducible repeat (first | apply Kd.S_alloc | apply Kd.S_drewN | apply Kd.S_drew)); exact HO_5.out, by repeat (first | (with_reducible first | exact HB.out | apply below_alloc | apply pw_below_drewN | apply below_drew1) | exact HB.out)⟩
def antipodelaw29_light.l0 : Nat → List (S41) → Int → Option (Bool)
 | 0, _, _ => none
 | k + 1, x0, x5 => if x5 < (x0.length : Int) then (if 0 ≤ x5 then (if (((rd_T41 x0 x5).f4).size : Int) > 1000 then (some false) else (if (((rd_T41 x0 x5).f5).length : Int) > 10 then (some false) else (antipodelaw29_light.l0 k x0 (wrap64 (x5 + 1))))) else (none)) else (some true)
def antipodelaw29_light.f (k : Nat) (l0 : List (S41)) (a1 : Int) : Option (Bool) := if (l0.length : Int) > a1 then (some false) else (antipodelaw29_light.l0 k l0 0)
set_option maxHeartbeats 8000000 in
set_option maxRecDepth 100000 in
theorem antipodelaw29_light.calls (k : Nat) (A0 : Option Addr) (c0 : Nat) (l0 : List (S41)) (a1 : Int) (r : Bool) (w : World) (hr0 : Kd.C k41 w A0 l0.length l0) (hc0 : l0.length ≤ c0) (h : antipodelaw29_light.f k l0 a1 = some r) :
  Calls Try.prog 14 #[.slice A0 l0.length c0, .int .i64 a1] w fun e w' => e = .returned (.bool r) ∧ Drawn0 w w' := by
 have HR0 := Aside0.mk hr0
 have HC0 := Aside0.mk hc0
 clear hr0 hc0
 have H : (if (l0.length : Int) > a1 then (some false) else (antipodelaw29_light.l0 k l0 0)) = some r := h
 clear h
 by_cases c3 : (l0.length : Int) > a1
 ·rw [if_pos c3] at H
  have c3b0 : decide (a1 < (l0.length : Int)) = true := decide_eq_true c3
  clear c3
  obtain rfl := Option.some.inj H
  go_enter Try.func14, Try.ntmps14
  go_wp2
  go_ret
  exact ⟨by first | rfl | (simp; done) | (simp [*]; done), by repeat (first | exact Drawn0.refl _ | apply Drawn0.step)⟩
 ·rw [if_neg c3] at H
  have c3b0 : decide (a1 < (l0.length : Int)) = false := decide_eq_false c3
  clear c3
  have H' := Aside0.mk H
  clear H
  go_enter Try.func14, Try.ntmps14
  go_wp2
  go_loopg [5] k (fun kq v5 w' => ∃ (x5_1 : Int), v5 = .int .i64 x5_1 ∧ Aside0 (antipodelaw29_light.l0 kq l0 x5_1 = some r) ∧ Aside0 (kq ≤ k) ∧ Drawn0 w w')
  case atStart => exact ⟨(0), (by first | rfl | (simp; done) | (simp [*]; done)), H', ⟨Nat.le_refl _⟩, by repeat (first | exact Drawn0.refl _ | apply Drawn0.step)⟩
  case round =>
   clear H'
   try clear c1
   try clear p2
   try clear c3
   try clear c3b0
   obtain ⟨x5_1, rfl, HA, HK1, ⟨m1, rfl⟩⟩ := hrel
   cases gk with
   | zero => exact absurd HA.out (by simp [antipodelaw29_light.l0])
   | succ k1 =>
    have H := HA.out
    clear HA
    simp only [antipodelaw29_light.l0] at H
    by_cases c4 : x5_1 < (l0.length : Int)
    ·rw [if_pos c4] at H
     have c4b0 : decide (x5_1 < (l0.length : Int)) = true := decide_eq_true c4
     clear c4
     by_cases c5 : 0 ≤ x5_1
     ·rw [if_pos c5] at H
      have c5b0 : decide (0 ≤ x5_1) = true := decide_eq_true c5
      clear c5
      by_cases c6 : (((rd_T41 l0 x5_1).f4).size : Int) > 1000
      ·rw [if_pos c6] at H
       have c6b0 : decide (1000 < (((rd_T41 l0 x5_1).f4).size : Int)) = true := decide_eq_true c6
       have c6b1 : decide (1000 < ((rd_T41 l0 x5_1).f4).size) = true := decide_eq_true (by omega)
       clear c6
       obtain rfl := Option.some.inj H
       have p246 : 0 ≤ (x5_1 : Int) := of_decide_eq_true (by first | (with_reducible assumption) | assumption)
       have q246 : x5_1 < (l0.length : Int) := of_decide_eq_true (by first | (with_reducible assumption) | assumption)
       obtain ⟨ad246, A246_5, c246_5, e246, hx246_0, hx246_1, hx246_2, hx246_3, hx246_4, hx246_5, hx246_6, hx246_7, hx246_8, hx246_9, hx246_10, hl246_5, hi246_5⟩ := at_T41 HR0.out x5_1 p246 q246
       cases e246
       have HR246_5 := Aside0.mk hi246_5
       have HC246_5 := Aside0.mk hl246_5
       clear hi246_5 hl246_5
       replace p246 := eq_true p246
       replace q246 := eq_true q246
       go_wp2
       go_ret
       exact ⟨by first | rfl | (simp; done) | (simp [*]; done), by repeat (first | exact Drawn0.refl _ | apply Drawn0.step)⟩
      ·rw [if_neg c6] at H
       have c6b0 : decide (1000 < (((rd_T41 l0 x5_1).f4).size : Int)) = false := decide_eq_false c6
       have c6b1 : decide (1000 < ((rd_T41 l0 x5_1).f4).size) = false := decide_eq_false (by omega)
       clear c6
       by_cases c7 : (((rd_T41 l0 x5_1).f5).length : Int) > 10
       ·rw [if_pos c7] at H
        have c7b0 : decide (10 < (((rd_T41 l0 x5_1).f5).length : Int)) = true := decide_eq_true c7
        have c7b1 : decide (10 < ((rd_T41 l0 x5_1).f5).length) = true := decide_eq_true (by omega)
        clear c7
        obtain rfl := Option.some.inj H
        have p246 : 0 ≤ (x5_1 : Int) := of_decide_eq_true (by first | (with_reducible assumption) | assumption)
        have q246 : x5_1 < (l0.length : Int) := of_decide_eq_true (by first | (with_reducible assumption) | assumption)
        obtain ⟨ad246, A246_5, c246_5, e246, hx246_0, hx246_1, hx246_2, hx246_3, hx246_4, hx246_5, hx246_6, hx246_7, hx246_8, hx246_9, hx246_10, hl246_5, hi246_5⟩ := at_T41 HR0.out x5_1 p246 q246
        cases e246
        have HR246_5 := Aside0.mk hi246_5
        have HC246_5 := Aside0.mk hl246_5
        clear hi246_5 hl246_5
        replace p246 := eq_true p246
        replace q246 := eq_true q246
        have p247 : 0 ≤ (x5_1 : Int) := of_decide_eq_true (by first | (with_reducible assumption) | assumption)
        have q247 : x5_1 < (l0.length : Int) := of_decide_eq_true (by first | (with_reducible assumption) | assumption)
        obtain ⟨ad247, A247_5, c247_5, e247, hx247_0, hx247_1, hx247_2, hx247_3, hx247_4, hx247_5, hx247_6, hx247_7, hx247_8, hx247_9, hx247_10, hl247_5, hi247_5⟩ := at_T41 HR0.out x5_1 p247 q247
        obtain rfl : ad246 = ad247 := (by injection e247)
        have HR247_5 := Aside0.mk hi247_5
        have HC247_5 := Aside0.mk hl247_5
        clear hi247_5 hl247_5
        replace p247 := eq_true p247
        replace q247 := eq_true q247
        have ea_ := Option.some.inj (hx246_5.symm.trans hx247_5)
        injection ea_ with ea_ en_ ec_
        subst ea_
        subst ec_
        clear en_
        go_wp2
        go_ret
        exact ⟨by first | rfl | (simp; done) | (simp [*]; done), by repeat (first | exact Drawn0.refl _ | apply Drawn0.step)⟩
       ·rw [if_neg c7] at H
        have c7b0 : decide (10 < (((rd_T41 l0 x5_1).f5).length : Int)) = false := decide_eq_false c7
        have c7b1 : decide (10 < ((rd_T41 l0 x5_1).f5).length) = false := decide_eq_false (by omega)
        clear c7
        have H' := Aside0.mk H
        clear H
        have p246 : 0 ≤ (x5_1 : Int) := of_decide_eq_true (by first | (with_reducible assumption) | assumption)
        have q246 : x5_1 < (l0.length : Int) := of_decide_eq_true (by first | (with_reducible assumption) | assumption)
        obtain ⟨ad246, A246_5, c246_5, e246, hx246_0, hx246_1, hx246_2, hx246_3, hx246_4, hx246_5, hx246_6, hx246_7, hx246_8, hx246_9, hx246_10, hl246_5, hi246_5⟩ := at_T41 HR0.out x5_1 p246 q246
        cases e246
        have HR246_5 := Aside0.mk hi246_5
        have HC246_5 := Aside0.mk hl246_5
        clear hi246_5 hl246_5
        replace p246 := eq_true p246
        replace q246 := eq_true q246
        have p247 : 0 ≤ (x5_1 : Int) := of_decide_eq_true (by first | (with_reducible assumption) | assumption)
        have q247 : x5_1 < (l0.length : Int) := of_decide_eq_true (by first | (with_reducible assumption) | assumption)
        obtain ⟨ad247, A247_5, c247_5, e247, hx247_0, hx247_1, hx247_2, hx247_3, hx247_4, hx247_5, hx247_6, hx247_7, hx247_8, hx247_9, hx247_10, hl247_5, hi247_5⟩ := at_T41 HR0.out x5_1 p247 q247
        obtain rfl : ad246 = ad247 := (by injection e247)
        have HR247_5 := Aside0.mk hi247_5
        have HC247_5 := Aside0.mk hl247_5
        clear hi247_5 hl247_5
        replace p247 := eq_true p247
        replace q247 := eq_true q247
        have ea_ := Option.some.inj (hx246_5.symm.trans hx247_5)
        injection ea_ with ea_ en_ ec_
        subst ea_
        subst ec_
        clear en_
        go_wp2
        go_roundg k1
        case measure => have := HK1.out; omega
        case rel => exact ⟨(wrap64 (x5_1 + 1)), (by first | rfl | (simp; done) | (simp [*]; done)), H', ⟨by have := HK1.out; omega⟩, by repeat (first | exact Drawn0.refl _ | apply Drawn0.step)⟩
     ·rw [if_neg c5] at H
      exact absurd H (by simp)
    ·rw [if_neg c4] at H
     have c4b0 : decide (x5_1 < (l0.length : Int)) = false := decide_eq_false c4
     clear c4
     obtain rfl := Option.some.inj H
     go_wp2
     go_ret
     exact ⟨by first | rfl | (simp; done) | (simp [*]; done), by repeat (first | exact Drawn0.refl _ | apply Drawn0.step)⟩
def antipoderef29_small.f (a0 : Int) (a1 : Int) : Option (Bool) := if a0 ≥ 0 then (some (decide (a0 ≤ a1))) else (some false)
set_option maxHeartbeats 8000000 in
set_option maxRecDepth 100000 in
theorem antipoderef29_small.calls (a0 : Int) (a1 : Int) (r : Bool) (w : World) (h : antipoderef29_small.f a0 a1 = some r) :
  Calls Try.prog 28 #[.int .i64 a0, .int .i64 a1] w fun e w' => e = .returned (.bool r) ∧ Drawn0 w w' := by
 have H : (if a0 ≥ 0 then (some (decide (a0 ≤ a1))) else (some false)) = some r := h
 clear h
 by_cases c3 : a0 ≥ 0
 ·rw [if_pos c3] at H
  have c3b0 : decide (0 ≤ a0) = true := decide_eq_true c3
  clear c3
  obtain rfl := Option.some.inj H
  go_enter Try.func28, Try.ntmps28
  go_wp2
  go_ret
  exact ⟨by first | rfl | (simp; done) | (simp [*]; done), by repeat (first | exact Drawn0.refl _ | apply Drawn0.step)⟩
 ·rw [if_neg c3] at H
  have c3b0 : decide (0 ≤ a0) = false := decide_eq_false c3
  clear c3
  obtain rfl := Option.some.inj H
  go_enter Try.func28, Try.ntmps28
  go_wp2
  go_ret
  exact ⟨by first | rfl | (simp; done) | (simp [*]; done), by repeat (first | exact Drawn0.refl _ | apply Drawn0.step)⟩
end Go.Proofs.Ytpoejopnjkcdpaa.QA


/- Written by a program of this session (wip/myprint.sh): contracts of Go functions of the translation: each call comes to what the Lean function of its name says. -/
import Derived.Test.YtpoejopnjkcdpaaQAx0
import Derived.Test.YtpoejopnjkcdpaaQAx3
import Derived.Test.YtpoejopnjkcdpaaQAx6
namespace Go.Proofs.Ytpoejopnjkcdpaa.QA
open Go.RowKit Go.Proofs.YtpoejopnjkcdpaaW.PrintWords Go.Proofs.YtpoejopnjkcdpaaW.PrintLast Go.Proofs.YtpoejopnjkcdpaaW.PrintMore
attribute [local go_sem] max2_int min2_int max_two min_two max_three min_three max_four min_four   -- for this text's walks alone
set_option linter.unusedVariables false
set_option linter.unusedSimpArgs false

/-! ### antipodelaw29_ScriptNodes: function 6 -/
mutual
def antipodelaw29_ScriptNodes.j0 : Nat → List Int → Int → List (S41) → Bool → Option (Bool)
  | 0, _, _, _, _ => none
  | k + 1, x0, x1, x5, x22 => if x22 = true then (antipodelaw29_ScriptNodes.j1 k x0 1 x5) else (antipodelaw29_ScriptNodes.j1 k x0 x1 x5)
def antipodelaw29_ScriptNodes.j1 : Nat → List Int → Int → List (S41) → Option (Bool)
  | 0, _, _, _ => none
  | k + 1, x0, x1, x5 => antipodelaw29_ScriptNodes.l0 k x0 x1 x5 0
def antipodelaw29_ScriptNodes.l0 : Nat → List Int → Int → List (S41) → Int → Option (Bool)
  | 0, _, _, _, _ => none
  | k + 1, x0, x1, x5, x6 => if x6 < (x5.length : Int) then (if 0 ≤ x6 then (if ((rd_T41 x5 x6).f0) = 3 then (if (true != (((rd_T41 x5 x6).f1) == 0)) = true then (some false) else (if ((rd_T41 x5 x6).f1) > x1 then (some false) else (if ((rd_T41 x5 x6).f0) < 1 then (some false) else (if ((rd_T41 x5 x6).f0) > 12 then (some false) else (if ((rd_T41 x5 x6).f0) = 10 then (some false) else (if ((rd_T41 x5 x6).f0) = 11 then (some false) else (antipodelaw29_ScriptNodes.l0 k x0 x1 x5 (wrap64 (x6 + 1))))))))) else (if ((rd_T41 x5 x6).f0) = 4 then (if (true != (((rd_T41 x5 x6).f1) == 0)) = true then (some false) else (if ((rd_T41 x5 x6).f1) > x1 then (some false) else (if ((rd_T41 x5 x6).f0) < 1 then (some false) else (if ((rd_T41 x5 x6).f0) > 12 then (some false) else (if ((rd_T41 x5 x6).f0) = 10 then (some false) else (if ((rd_T41 x5 x6).f0) = 11 then (some false) else (antipodelaw29_ScriptNodes.l0 k x0 x1 x5 (wrap64 (x6 + 1))))))))) else (if ((((rd_T41 x5 x6).f0) == 5) != (((rd_T41 x5 x6).f1) == 0)) = true then (some false) else (if ((rd_T41 x5 x6).f1) > x1 then (some false) else (if ((rd_T41 x5 x6).f0) < 1 then (some false) else (if ((rd_T41 x5 x6).f0) > 12 then (some false) else (if ((rd_T41 x5 x6).f0) = 10 then (some false) else (if ((rd_T41 x5 x6).f0) = 11 then (some false) else (antipodelaw29_ScriptNodes.l0 k x0 x1 x5 (wrap64 (x6 + 1))))))))))) else (none)) else (some (decide ((x5.length : Int) ≤ (x0.length : Int))))
end
def antipodelaw29_ScriptNodes.f (k : Nat) (l0 : List Int) (a1 : Int) : Option (Bool) := (antipodelaw29_begun.f k).bind fun t321 => (if t321 = true then (if (l0.length : Int) > 1024 then (some true) else ((script_Decode.f k l0 a1).bind fun t322 => (if a1 < 1 then (antipodelaw29_ScriptNodes.j0 k l0 a1 t322 true) else (antipodelaw29_ScriptNodes.j0 k l0 a1 t322 (decide (a1 > 9)))))) else (some false))
theorem antipodelaw29_ScriptNodes.mono_l : ∀ k, (∀ y0 y1 y2 y3, LeO (antipodelaw29_ScriptNodes.j0 k y0 y1 y2 y3) (antipodelaw29_ScriptNodes.j0 (k + 1) y0 y1 y2 y3)) ∧ (∀ y0 y1 y2, LeO (antipodelaw29_ScriptNodes.j1 k y0 y1 y2) (antipodelaw29_ScriptNodes.j1 (k + 1) y0 y1 y2)) ∧ (∀ y0 y1 y2 y3, LeO (antipodelaw29_ScriptNodes.l0 k y0 y1 y2 y3) (antipodelaw29_ScriptNodes.l0 (k + 1) y0 y1 y2 y3))
  | 0 => ⟨fun _ _ _ _ r h => by simp [antipodelaw29_ScriptNodes.j0] at h, fun _ _ _ r h => by simp [antipodelaw29_ScriptNodes.j1] at h, fun _ _ _ _ r h => by simp [antipodelaw29_ScriptNodes.l0] at h⟩
  | k + 1 => by
    obtain ⟨ih0, ih1, ih2⟩ := antipodelaw29_ScriptNodes.mono_l k
    refine ⟨?_, ?_, ?_⟩
    · intro y0 y1 y2 y3
      unfold antipodelaw29_ScriptNodes.j0
      repeat' first
      | (with_reducible exact ih0 _ _ _ _)
      | (with_reducible exact ih1 _ _ _)
      | (with_reducible exact ih2 _ _ _ _)
      | (with_reducible exact antipodelaw29_begun.mono _)
      | (with_reducible exact script_Decode.mono _ _ _)
      | (with_reducible exact LeO.refl _)
      | (with_reducible exact LeO.none _)
      | (with_reducible refine LeO.ite ?_ ?_)
      | (with_reducible refine LeO.bind ?_ (fun _ => ?_))
      | exact ih0 _ _ _ _
      | exact ih1 _ _ _
      | exact ih2 _ _ _ _
      | exact antipodelaw29_begun.mono _
      | exact script_Decode.mono _ _ _
      | exact LeO.none _
      | refine LeO.ite ?_ ?_
      | refine LeO.bind ?_ (fun _ => ?_)
    · intro y0 y1 y2
      unfold antipodelaw29_ScriptNodes.j1
      repeat' first
      | (with_reducible exact ih0 _ _ _ _)
      | (with_reducible exact ih1 _ _ _)
      | (with_reducible exact ih2 _ _ _ _)
      | (with_reducible exact antipodelaw29_begun.mono _)
      | (with_reducible exact script_Decode.mono _ _ _)
      | (with_reducible exact LeO.refl _)
      | (with_reducible exact LeO.none _)
      | (with_reducible refine LeO.ite ?_ ?_)
      | (with_reducible refine LeO.bind ?_ (fun _ => ?_))
      | exact ih0 _ _ _ _
      | exact ih1 _ _ _
      | exact ih2 _ _ _ _
      | exact antipodelaw29_begun.mono _
      | exact script_Decode.mono _ _ _
      | exact LeO.none _
      | refine LeO.ite ?_ ?_
      | refine LeO.bind ?_ (fun _ => ?_)
    · intro y0 y1 y2 y3
      unfold antipodelaw29_ScriptNodes.l0
      repeat' first
      | (with_reducible exact ih0 _ _ _ _)
      | (with_reducible exact ih1 _ _ _)
      | (with_reducible exact ih2 _ _ _ _)
      | (with_reducible exact antipodelaw29_begun.mono _)
      | (with_reducible exact script_Decode.mono _ _ _)
      | (with_reducible exact LeO.refl _)
      | (with_reducible exact LeO.none _)
      | (with_reducible refine LeO.ite ?_ ?_)
      | (with_reducible refine LeO.bind ?_ (fun _ => ?_))
      | exact ih0 _ _ _ _
      | exact ih1 _ _ _
      | exact ih2 _ _ _ _
      | exact antipodelaw29_begun.mono _
      | exact script_Decode.mono _ _ _
      | exact LeO.none _
      | refine LeO.ite ?_ ?_
      | refine LeO.bind ?_ (fun _ => ?_)
theorem antipodelaw29_ScriptNodes.mono : ∀ a0 a1 k, LeO (antipodelaw29_ScriptNodes.f k a0 a1) (antipodelaw29_ScriptNodes.f (k + 1) a0 a1) := by
  intro a0 a1 k
  obtain ⟨ih0, ih1, ih2⟩ := antipodelaw29_ScriptNodes.mono_l k
  unfold antipodelaw29_ScriptNodes.f
  repeat' first
      | (with_reducible exact ih0 _ _ _ _)
      | (with_reducible exact ih1 _ _ _)
      | (with_reducible exact ih2 _ _ _ _)
      | (with_reducible exact antipodelaw29_begun.mono _)
      | (with_reducible exact script_Decode.mono _ _ _)
      | (with_reducible exact LeO.refl _)
      | (with_reducible exact LeO.none _)
      | (with_reducible refine LeO.ite ?_ ?_)
      | (with_reducible refine LeO.bind ?_ (fun _ => ?_))
      | exact ih0 _ _ _ _
      | exact ih1 _ _ _
      | exact ih2 _ _ _ _
      | exact antipodelaw29_begun.mono _
      | exact script_Decode.mono _ _ _
      | exact LeO.none _
      | refine LeO.ite ?_ ?_
      | refine LeO.bind ?_ (fun _ => ?_)
set_option maxHeartbeats 8000000 in
set_option maxRecDepth 100000 in
theorem antipodelaw29_ScriptNodes.calls (k : Nat) (A0 : Option Addr) (c0 : Nat) (l0 : List Int) (a1 : Int) (r : Bool) (w : World) (hr0 : Kd.C (Kd.int .u8) w A0 l0.length l0) (hc0 : l0.length ≤ c0) (hr_ : Aside0 (r = true)) (h : antipodelaw29_ScriptNodes.f k l0 a1 = some r) :
    Calls Try.prog 6 #[.slice A0 l0.length c0, .int .i64 a1] w fun e w' => e = .returned (.bool r) ∧ Below w.heap.size w w' := by
  have hu41 := Try.underlying41
  have HR0 := Aside0.mk hr0
  have HC0 := Aside0.mk hc0
  clear hr0 hc0
  have HB := Aside0.mk (Below.refl w.heap.size w)
  have H : ((antipodelaw29_begun.f k).bind fun t321 => (if t321 = true then (if (l0.length : Int) > 1024 then (some true) else ((script_Decode.f k l0 a1).bind fun t322 => (if a1 < 1 then (antipodelaw29_ScriptNodes.j0 k l0 a1 t322 true) else (antipodelaw29_ScriptNodes.j0 k l0 a1 t322 (decide (a1 > 9)))))) else (some false))) = some r := h
  clear h
  replace H := Option.bind_eq_some_iff.mp H
  obtain ⟨t321, A30, H⟩ := H
  replace H : (if t321 = true then (if (l0.length : Int) > 1024 then (some true) else ((script_Decode.f k l0 a1).bind fun t322 => (if a1 < 1 then (antipodelaw29_ScriptNodes.j0 k l0 a1 t322 true) else (antipodelaw29_ScriptNodes.j0 k l0 a1 t322 (decide (a1 > 9)))))) else (some false)) = some r := H
  have A3 := Aside0.mk A30
  clear A30
  by_cases c4 : t321 = true
  · subst c4
    have H1 : (if (l0.length : Int) > 1024 then (some true) else ((script_Decode.f k l0 a1).bind fun t322 => (if a1 < 1 then (antipodelaw29_ScriptNodes.j0 k l0 a1 t322 true) else (antipodelaw29_ScriptNodes.j0 k l0 a1 t322 (decide (a1 > 9)))))) = some r := by rw [if_pos rfl] at H; exact H
    clear H
    have H := H1
    clear H1
    by_cases c5 : (l0.length : Int) > 1024
    · rw [if_pos c5] at H
      have c5b0 : decide (1024 < (l0.length : Int)) = true := decide_eq_true c5
      have c5b1 : decide (1024 < l0.length) = true := decide_eq_true (by omega)
      clear c5
      obtain rfl := Option.some.inj H
      go_enter Try.func6, Try.ntmps6
      go_wp2_with (first | ((with_reducible refine gate_callee (f := 7) rfl ?_); refine goesL_ (some 9) rfl rfl Try.func7 (by kernel_rfl) rfl #[] rfl (by (try simp only [List.map_toArray, List.map_cons, List.map_nil]); first | done | rfl | (simp only [List.length_drop, List.length_take]; rfl)) ?_; (with_reducible refine (antipodelaw29_begun.calls k  true _ A3.out).mono ?_); rintro e w6 ⟨rfl, hb⟩; refine ⟨_, rfl, ?_⟩; have n0_ := Aside0.mk (below_step (by repeat (first | (with_reducible first | exact HB.out | apply below_alloc | apply pw_below_drewN | apply below_drew1) | exact HB.out)) hb); clear HB; have HB := n0_; clear n0_; (try clear hb); (try clear hb2); (try clear hk); (try clear hi)))
      go_ret
      exact ⟨by first | rfl | (simp [errW_none, errW_some] <;> rfl) | (simp [*, errW_none, errW_some] <;> rfl), by repeat (first | (with_reducible first | exact HB.out | apply below_alloc | apply pw_below_drewN | apply below_drew1) | exact HB.out)⟩
    · rw [if_neg c5] at H
      have c5b0 : decide (1024 < (l0.length : Int)) = false := decide_eq_false c5
      have c5b1 : decide (1024 < l0.length) = false := decide_eq_false (by omega)
      clear c5
      replace H := Option.bind_eq_some_iff.mp H
      obtain ⟨t322, A70, H⟩ := H
      replace H : (if a1 < 1 then (antipodelaw29_ScriptNodes.j0 k l0 a1 t322 true) else (antipodelaw29_ScriptNodes.j0 k l0 a1 t322 (decide (a1 > 9)))) = some r := H
      have A7 := Aside0.mk A70
      clear A70
      have HC8 := Aside0.mk H
      clear H
      go_enter Try.func6, Try.ntmps6
      go_upto_region 6 with (first | ((with_reducible refine gate_callee (f := 7) rfl ?_); refine goesL_ (some 9) rfl rfl Try.func7 (by kernel_rfl) rfl #[] rfl (by (try simp only [List.map_toArray, List.map_cons, List.map_nil]); first | done | rfl | (simp only [List.length_drop, List.length_take]; rfl)) ?_; (with_reducible refine (antipodelaw29_begun.calls k  true _ A3.out).mono ?_); rintro e w9 ⟨rfl, hb⟩; refine ⟨_, rfl, ?_⟩; have n0_ := Aside0.mk (below_step (by repeat (first | (with_reducible first | exact HB.out | apply below_alloc | apply pw_below_drewN | apply below_drew1) | exact HB.out)) hb); clear HB; have HB := n0_; clear n0_; (try clear hb); (try clear hb2); (try clear hk); (try clear hi)) | ((with_reducible refine gate_callee (f := 9) rfl ?_); refine goesL_ (some 16) rfl rfl Try.func9 (by kernel_rfl) rfl #[.slice A0 l0.length c0, .int .i64 a1] rfl (by (try simp only [List.map_toArray, List.map_cons, List.map_nil]); first | done | rfl | (simp only [List.length_drop, List.length_take]; rfl)) ?_; (with_reducible refine (script_Decode.calls k _ _ l0 a1 t322 _ ?side1 ?side2 A7.out).mono ?_); (case side1 => repeat (first | exact (Kd.C_below HR0.out HB.out) | (with_reducible refine Kd.C_alloc ?_ _) | (with_reducible refine Kd.C_drewN ?_ _) | (with_reducible refine Kd.C_drew ?_))); (case side2 => exact HC0.out); rintro e w10 ⟨v323, rfl, ho0, hb⟩; refine ⟨_, rfl, ?_⟩; have n0_ := Aside0.mk (Kd.S_lower ho0 (below_size (by repeat (first | (with_reducible first | exact HB.out | apply below_alloc | apply pw_below_drewN | apply below_drew1) | exact HB.out)))); have n1_ := Aside0.mk (below_step (by repeat (first | (with_reducible first | exact HB.out | apply below_alloc | apply pw_below_drewN | apply below_drew1) | exact HB.out)) hb); clear HB; have HO324 := n0_; have HB := n1_; clear n0_ n1_; (try clear hb); (try clear hb2); (try clear hk); (try clear hi); (try clear ho0)))
      (try simp only [Act.put, List.setIfInBounds_toArray, List.set_cons_zero, List.set_cons_succ])
      go_cut [22] (fun v22 wc => ∃ (kq : Nat) (x22_7 : Bool), v22 = .bool x22_7 ∧ Aside0 (antipodelaw29_ScriptNodes.j0 kq l0 a1 t322 x22_7 = some r) ∧ Aside0 (kq ≤ k) ∧ Aside0 (Kd.S k41 41 wc w.heap.size (fun _ => True) v323 t322) ∧ Aside0 (Below w.heap.size w wc))
      case first =>
        have H := HC8.out
        clear HC8
        by_cases c11 : a1 < 1
        · rw [if_pos c11] at H
          have c11b0 : decide (a1 < 1) = true := decide_eq_true c11
          clear c11
          (first | rw [c11b0] | (simp only [i64_w, i32_w]; rw [c11b0]) | skip)
          have H' := Aside0.mk H
          clear H
          go_wp2
          go_meet
          case rel => exact ⟨_, (true), (by first | rfl | (simp; done) | (simp [*]; done)), H', ⟨by first | omega | exact Nat.le_refl _⟩, ⟨by (with_reducible repeat (first | apply Kd.S_alloc | apply Kd.S_drewN | apply Kd.S_drew)); exact HO324.out⟩, ⟨by repeat (first | (with_reducible first | exact HB.out | apply below_alloc | apply pw_below_drewN | apply below_drew1) | exact HB.out)⟩⟩
        · rw [if_neg c11] at H
          have c11b0 : decide (a1 < 1) = false := decide_eq_false c11
          clear c11
          (first | rw [c11b0] | (simp only [i64_w, i32_w]; rw [c11b0]) | skip)
          have H' := Aside0.mk H
          clear H
          go_wp2
          go_meet
          case rel => exact ⟨_, (decide (a1 > 9)), (by first | rfl | (simp; done) | (simp [*]; done)), H', ⟨by first | omega | exact Nat.le_refl _⟩, ⟨by (with_reducible repeat (first | apply Kd.S_alloc | apply Kd.S_drewN | apply Kd.S_drew)); exact HO324.out⟩, ⟨by repeat (first | (with_reducible first | exact HB.out | apply below_alloc | apply pw_below_drewN | apply below_drew1) | exact HB.out)⟩⟩
      case rest =>
        clear HC8
        try clear c1
        try clear p2
        try clear c4
        try clear c5
        try clear c5b0
        try clear c5b1
        try clear c6
        try clear c7
        try clear c9
        try clear c11
        try clear c11b0
        obtain ⟨kq, x22_7, rfl, HA, HJ7, HO_5, HB⟩ := hcut
        cases kq with
        | zero => exact absurd HA.out (by simp [antipodelaw29_ScriptNodes.j0])
        | succ kj7 =>
          have H := HA.out
          clear HA
          simp only [antipodelaw29_ScriptNodes.j0] at H
          have HC12 := Aside0.mk H
          clear H
          go_upto_if 22 with (fail)
          go_cut [1] (fun v1 wc => ∃ (kq : Nat) (x1_11 : Int), v1 = .int .i64 x1_11 ∧ Aside0 (antipodelaw29_ScriptNodes.j1 kq l0 x1_11 t322 = some r) ∧ Aside0 (kq ≤ kj7) ∧ Aside0 (Kd.S k41 41 wc w.heap.size (fun _ => True) v323 t322) ∧ Aside0 (Below w.heap.size w wc))
          case first =>
            have H := HC12.out
            clear HC12
            by_cases c13 : x22_7 = true
            · subst c13
              have H1 : (antipodelaw29_ScriptNodes.j1 kj7 l0 1 t322) = some r := by rw [if_pos rfl] at H; exact H
              clear H
              have H := H1
              clear H1
              have H' := Aside0.mk H
              clear H
              go_wp2
              go_meet
              case rel => exact ⟨_, (1), (by first | rfl | (simp; done) | (simp [*]; done)), H', ⟨by have := HJ7.out; first | omega | exact Nat.le_refl _⟩, ⟨by (with_reducible repeat (first | apply Kd.S_alloc | apply Kd.S_drewN | apply Kd.S_drew)); exact HO_5.out⟩, ⟨by repeat (first | (with_reducible first | exact HB.out | apply below_alloc | apply pw_below_drewN | apply below_drew1) | exact HB.out)⟩⟩
            · replace c13 := Bool.eq_false_iff.mpr c13
              subst c13
              have H1 : (antipodelaw29_ScriptNodes.j1 kj7 l0 a1 t322) = some r := by rw [if_neg (show ¬ (false = true) by decide)] at H; exact H
              clear H
              have H := H1
              clear H1
              have H' := Aside0.mk H
              clear H
              go_wp2
              go_meet
              case rel => exact ⟨_, (a1), (by first | rfl | (simp; done) | (simp [*]; done)), H', ⟨by have := HJ7.out; first | omega | exact Nat.le_refl _⟩, ⟨by (with_reducible repeat (first | apply Kd.S_alloc | apply Kd.S_drewN | apply Kd.S_drew)); exact HO_5.out⟩, ⟨by repeat (first | (with_reducible first | exact HB.out | apply below_alloc | apply pw_below_drewN | apply below_drew1) | exact HB.out)⟩⟩
          case rest =>
            clear HC12
            try clear c1
            try clear p2
            try clear c4
            try clear c5
            try clear c5b0
            try clear c5b1
            try clear c6
            try clear c7
            try clear c9
            try clear c11
            try clear c11b0
            try clear c13
            try clear p2
            obtain ⟨kq, x1_11, rfl, HA, HJ11, HO_5, HB⟩ := hcut
            cases kq with
            | zero => exact absurd HA.out (by simp [antipodelaw29_ScriptNodes.j1])
            | succ kj11 =>
              have H := HA.out
              clear HA
              simp only [antipodelaw29_ScriptNodes.j1] at H
              have H' := Aside0.mk H
              clear H
              go_wp2
              go_loopg [6] kj11 (fun kq v6 w' => ∃ (x6_3 : Int), v6 = .int .i64 x6_3 ∧ Aside0 (antipodelaw29_ScriptNodes.l0 kq l0 x1_11 t322 x6_3 = some r) ∧ Aside0 (kq ≤ kj11) ∧ Aside0 (Kd.S k41 41 w' w.heap.size (fun _ => True) v323 t322) ∧ Aside0 (Below w.heap.size w w'))
              case atStart => exact ⟨(0), (by first | rfl | (simp; done) | (simp [*]; done)), H', ⟨Nat.le_refl _⟩, ⟨by (with_reducible repeat (first | apply Kd.S_alloc | apply Kd.S_drewN | apply Kd.S_drew)); exact HO_5.out⟩, ⟨by repeat (first | (with_reducible first | exact HB.out | apply below_alloc | apply pw_below_drewN | apply below_drew1) | exact HB.out)⟩⟩
              case round =>
                clear H'
                try clear c1
                try clear p2
                try clear c4
                try clear c5
                try clear c5b0
                try clear c5b1
                try clear c6
                try clear c7
                try clear c9
                try clear c11
                try clear c11b0
                try clear c13
                try clear p2
                obtain ⟨x6_3, rfl, HA, HK3, HO_5, HB⟩ := hrel
                cases gk with
                | zero => exact absurd HA.out (by simp [antipodelaw29_ScriptNodes.l0])
                | succ k3 =>
                  have H := HA.out
                  clear HA
                  simp only [antipodelaw29_ScriptNodes.l0] at H
                  by_cases c14 : x6_3 < (t322.length : Int)
                  · rw [if_pos c14] at H
                    have c14b0 : decide (x6_3 < (t322.length : Int)) = true := decide_eq_true c14
                    clear c14
                    by_cases c15 : 0 ≤ x6_3
                    · rw [if_pos c15] at H
                      have c15b0 : decide (0 ≤ x6_3) = true := decide_eq_true c15
                      clear c15
                      by_cases c16 : ((rd_T41 t322 x6_3).f0) = 3
                      · rw [if_pos c16] at H
                        have c16b0 : (((rd_T41 t322 x6_3).f0) == 3) = true := beq_iff_eq.mpr c16
                        have c16b1 : (((rd_T41 t322 x6_3).f0) != 3) = false := bne_eq_false_iff_eq.mpr c16
                        clear c16
                        by_cases c17 : (true != (((rd_T41 t322 x6_3).f1) == 0)) = true
                        · rw [if_pos c17] at H
                          have c17b0 : (true != (((rd_T41 t322 x6_3).f1) == 0)) = true := c17
                          (try (have c17b1 : decide (true = (((rd_T41 t322 x6_3).f1) == 0)) = false := by simpa using c17))
                          (try (have c17b2 : (true == (((rd_T41 t322 x6_3).f1) == 0)) = false := by simpa using c17))
                          (try (have c17b3 : ¬ (true = (((rd_T41 t322 x6_3).f1) == 0)) := by simpa using c17))
                          clear c17
                          exact absurd ((Option.some.inj H).trans hr_.out) (by decide)
                        · rw [if_neg c17] at H
                          have c17b0 : (true != (((rd_T41 t322 x6_3).f1) == 0)) = false := by simpa using c17
                          (try (have c17b1 : decide (true = (((rd_T41 t322 x6_3).f1) == 0)) = true := by simpa using c17))
                          (try (have c17b2 : (true == (((rd_T41 t322 x6_3).f1) == 0)) = true := by simpa using c17))
                          clear c17
                          by_cases c18 : ((rd_T41 t322 x6_3).f1) > x1_11
                          · rw [if_pos c18] at H
                            have c18b0 : decide (x1_11 < ((rd_T41 t322 x6_3).f1)) = true := decide_eq_true c18
                            clear c18
                            exact absurd ((Option.some.inj H).trans hr_.out) (by decide)
                          · rw [if_neg c18] at H
                            have c18b0 : decide (x1_11 < ((rd_T41 t322 x6_3).f1)) = false := decide_eq_false c18
                            clear c18
                            by_cases c19 : ((rd_T41 t322 x6_3).f0) < 1
                            · rw [if_pos c19] at H
                              have c19b0 : decide (((rd_T41 t322 x6_3).f0) < 1) = true := decide_eq_true c19
                              clear c19
                              exact absurd ((Option.some.inj H).trans hr_.out) (by decide)
                            · rw [if_neg c19] at H
                              have c19b0 : decide (((rd_T41 t322 x6_3).f0) < 1) = false := decide_eq_false c19
                              clear c19
                              by_cases c20 : ((rd_T41 t322 x6_3).f0) > 12
                              · rw [if_pos c20] at H
                                have c20b0 : decide (12 < ((rd_T41 t322 x6_3).f0)) = true := decide_eq_true c20
                                clear c20
                                exact absurd ((Option.some.inj H).trans hr_.out) (by decide)
                              · rw [if_neg c20] at H
                                have c20b0 : decide (12 < ((rd_T41 t322 x6_3).f0)) = false := decide_eq_false c20
                                clear c20
                                by_cases c21 : ((rd_T41 t322 x6_3).f0) = 10
                                · rw [if_pos c21] at H
                                  have c21b0 : (((rd_T41 t322 x6_3).f0) == 10) = true := beq_iff_eq.mpr c21
                                  have c21b1 : (((rd_T41 t322 x6_3).f0) != 10) = false := bne_eq_false_iff_eq.mpr c21
                                  clear c21
                                  exact absurd ((Option.some.inj H).trans hr_.out) (by decide)
                                · rw [if_neg c21] at H
                                  have c21b0 : (((rd_T41 t322 x6_3).f0) == 10) = false := beq_eq_false_iff_ne.mpr c21
                                  have c21b1 : (((rd_T41 t322 x6_3).f0) != 10) = true := bne_iff_ne.mpr c21
                                  by_cases c22 : ((rd_T41 t322 x6_3).f0) = 11
                                  · rw [if_pos c22] at H
                                    have c22b0 : (((rd_T41 t322 x6_3).f0) == 11) = true := beq_iff_eq.mpr c22
                                    have c22b1 : (((rd_T41 t322 x6_3).f0) != 11) = false := bne_eq_false_iff_eq.mpr c22
                                    clear c22
                                    exact absurd ((Option.some.inj H).trans hr_.out) (by decide)
                                  · rw [if_neg c22] at H
                                    have c22b0 : (((rd_T41 t322 x6_3).f0) == 11) = false := beq_eq_false_iff_ne.mpr c22
                                    have c22b1 : (((rd_T41 t322 x6_3).f0) != 11) = true := bne_iff_ne.mpr c22
                                    have H' := Aside0.mk H
                                    clear H
                                    obtain ⟨Ao23, co23, eo23⟩ := Kd.S_slice HO_5.out
                                    subst eo23
                                    have p325 : 0 ≤ (x6_3 : Int) := of_decide_eq_true (by first | (with_reducible assumption) | assumption)
                                    have q325 : x6_3 < (t322.length : Int) := of_decide_eq_true (by first | (with_reducible assumption) | assumption)
                                    obtain ⟨ad325, A325_5, c325_5, e325, hx325_0, hx325_1, hx325_2, hx325_3, hx325_4, hx325_5, hx325_6, hx325_7, hx325_8, hx325_9, hx325_10, hl325_5, hi325_5⟩ := at_T41 (Kd.S_reads' HO_5.out).2.2 x6_3 p325 q325
                                    cases e325
                                    obtain ⟨ce325, hce325, hMe325, hcc325⟩ := Kd.S_get HO_5.out z41 x6_3 p325 (by first | exact q325 | exact of_decide_eq_true (by first | (with_reducible assumption) | assumption) | (have e_ := (Kd.S_reads' HO_5.out).1; omega))
                                    obtain ⟨ve325_5, rfl, ge325_5⟩ := k41_openM hMe325
                                    have hv325_5 := hcc325 5 _ rfl
                                    rw [add_field _ _ 5 (by omega)] at hv325_5
                                    replace hv325_5 := Option.some.inj (hv325_5.symm.trans hx325_5)
                                    rw [hv325_5] at ge325_5
                                    have HL325_5 := Aside0.mk (show Kd.R (Kd.int .i64) 3 _ _ _ _ ((rd_T41 t322 x6_3).f5) from ge325_5)
                                    clear hv325_5 ge325_5
                                    clear hcc325 hce325
                                    have HR325_5 := Aside0.mk hi325_5
                                    have HC325_5 := Aside0.mk hl325_5
                                    clear hi325_5 hl325_5
                                    replace p325 := eq_true p325
                                    replace q325 := eq_true q325
                                    go_wp2_with (first | ((with_reducible refine gate_dst (N := 7) rfl ?_); refine box_event ?hg (N := 7) ?hd (cs := #[.int .i64 0, .int .i64 0, .int .i64 0, .int .i64 0, .string (⟨#[]⟩ : ByteArray), .slice none 0 0, .int .u16 0, .int .u16 0, .int .u16 0, .int .i64 0, .int .i64 0]) (t := 41) ?hr ?_; (case hd => rfl); (case hg => rfl); (case hr => first | (go_simp; done) | (go_simp; rfl)); intro gb326 hg w24 hbox hb; have n0_ := Aside0.mk (Kd.S_below (Kd.S_elderB (by (with_reducible repeat (first | apply Kd.S_alloc | apply Kd.S_drewN | apply Kd.S_drew)); exact HO_5.out) gb326 (Nat.le_of_eq hg.symm)) hb); have n1_ := Aside0.mk (Kd.R_below (by (with_reducible repeat (first | apply Kd.R_alloc | apply Kd.R_drewN | apply Kd.R_drew)); exact HL325_5.out) hb); have n2_ := Aside0.mk (Kd.C_below (by repeat (first | (with_reducible exact HR325_5.out) | (with_reducible refine Kd.C_alloc ?_ _) | (with_reducible refine Kd.C_drewN ?_ _) | (with_reducible refine Kd.C_drew ?_) | exact HR325_5.out)) hb); have n3_ := Aside0.mk (below_step (by repeat (first | (with_reducible first | exact HB.out | apply below_alloc | apply pw_below_drewN | apply below_drew1) | exact HB.out)) hb); have n4_ := Aside0.mk (hbox); have n5_ := Aside0.mk ((by rw [hg]; exact (below_size (by repeat (first | (with_reducible first | exact HB.out | apply below_alloc | apply pw_below_drewN | apply below_drew1) | exact HB.out))) : w.heap.size ≤ gb326)); have n6_ := Aside0.mk ((by rw [hg]; exact (below_size (by repeat (first | (with_reducible first | exact HB.out | apply below_alloc | apply pw_below_drewN | apply below_drew1) | exact HB.out))) : w.heap.size ≤ gb326)); clear HO_5; clear HL325_5; clear HR325_5; clear HB; have HO_5 := n0_; have HL325_5 := n1_; have HR325_5 := n2_; have HB := n3_; have BK326 := n4_; have GW326 := n5_; have GE326 := n6_; clear n0_ n1_ n2_ n3_ n4_ n5_ n6_; clear hb hbox hg; have hcz25_0 : w24.cell? ⟨gb326, 0, none⟩ = some (.int .i64 0) := (blk_cell BK326.out 0).trans rfl; have hcz25_1 : w24.cell? ⟨gb326, 1, none⟩ = some (.int .i64 0) := (blk_cell BK326.out 1).trans rfl; have hcz25_2 : w24.cell? ⟨gb326, 2, none⟩ = some (.int .i64 0) := (blk_cell BK326.out 2).trans rfl; have hcz25_3 : w24.cell? ⟨gb326, 3, none⟩ = some (.int .i64 0) := (blk_cell BK326.out 3).trans rfl; have hcz25_4 : w24.cell? ⟨gb326, 4, none⟩ = some (.string (⟨#[]⟩ : ByteArray)) := (blk_cell BK326.out 4).trans rfl; have hcz25_5 : w24.cell? ⟨gb326, 5, none⟩ = some (.slice none 0 0) := (blk_cell BK326.out 5).trans rfl; have hcz25_6 : w24.cell? ⟨gb326, 6, none⟩ = some (.int .u16 0) := (blk_cell BK326.out 6).trans rfl; have hcz25_7 : w24.cell? ⟨gb326, 7, none⟩ = some (.int .u16 0) := (blk_cell BK326.out 7).trans rfl; have hcz25_8 : w24.cell? ⟨gb326, 8, none⟩ = some (.int .u16 0) := (blk_cell BK326.out 8).trans rfl; have hcz25_9 : w24.cell? ⟨gb326, 9, none⟩ = some (.int .i64 0) := (blk_cell BK326.out 9).trans rfl; have hcz25_10 : w24.cell? ⟨gb326, 10, none⟩ = some (.int .i64 0) := (blk_cell BK326.out 10).trans rfl; have hfz25_0 := blk_frozen BK326.out 0; have hfz25_1 := blk_frozen BK326.out 1; have hfz25_2 := blk_frozen BK326.out 2; have hfz25_3 := blk_frozen BK326.out 3; have hfz25_4 := blk_frozen BK326.out 4; have hfz25_5 := blk_frozen BK326.out 5; have hfz25_6 := blk_frozen BK326.out 6; have hfz25_7 := blk_frozen BK326.out 7; have hfz25_8 := blk_frozen BK326.out 8; have hfz25_9 := blk_frozen BK326.out 9; have hfz25_10 := blk_frozen BK326.out 10))
                                    go_roundg k3
                                    case measure => have := HJ7.out; have := HJ11.out; have := HK3.out; omega
                                    case rel => exact ⟨(wrap64 (x6_3 + 1)), (by first | rfl | (simp; done) | (simp [*]; done)), H', ⟨by have := HJ7.out; have := HJ11.out; have := HK3.out; omega⟩, ⟨by (with_reducible repeat (first | apply Kd.S_alloc | apply Kd.S_drewN | apply Kd.S_drew)); exact Kd.S_mono (Kd.S_far (p := ⟨gb326, 10, none⟩) (Kd.S_far (p := ⟨gb326, 9, none⟩) (Kd.S_far (p := ⟨gb326, 8, none⟩) (Kd.S_far (p := ⟨gb326, 7, none⟩) (Kd.S_far (p := ⟨gb326, 6, none⟩) (Kd.S_far (p := ⟨gb326, 5, none⟩) (Kd.S_far (p := ⟨gb326, 4, none⟩) (Kd.S_far (p := ⟨gb326, 3, none⟩) (Kd.S_far (p := ⟨gb326, 2, none⟩) (Kd.S_far (p := ⟨gb326, 1, none⟩) (Kd.S_far (p := ⟨gb326, 0, none⟩) (Kd.S_mono HO_5.out (fun k_ hk => (⟨hk, hk.2⟩ : _ ∧ k_ ≠ gb326))) (fun _ hk => hk.2) (.int .i64 ((rd_T41 t322 x6_3).f0))) (fun _ hk => hk.2) (.int .i64 ((rd_T41 t322 x6_3).f1))) (fun _ hk => hk.2) (.int .i64 ((rd_T41 t322 x6_3).f2))) (fun _ hk => hk.2) (.int .i64 ((rd_T41 t322 x6_3).f3))) (fun _ hk => hk.2) (.string ((rd_T41 t322 x6_3).f4))) (fun _ hk => hk.2) (.slice A325_5 ((rd_T41 t322 x6_3).f5).length c325_5)) (fun _ hk => hk.2) (.int .u16 ((rd_T41 t322 x6_3).f6.f0))) (fun _ hk => hk.2) (.int .u16 ((rd_T41 t322 x6_3).f6.f1))) (fun _ hk => hk.2) (.int .u16 ((rd_T41 t322 x6_3).f6.f2))) (fun _ hk => hk.2) (.int .i64 ((rd_T41 t322 x6_3).f6.f3))) (fun _ hk => hk.2) (.int .i64 ((rd_T41 t322 x6_3).f6.f4))) (fun _ hk => trivial)⟩, ⟨by repeat (first | (with_reducible first | exact HB.out | apply below_alloc | apply pw_below_drewN | apply below_drew1 | refine below_set ?_ GE326.out) | exact HB.out)⟩⟩
                      · rw [if_neg c16] at H
                        have c16b0 : (((rd_T41 t322 x6_3).f0) == 3) = false := beq_eq_false_iff_ne.mpr c16
                        have c16b1 : (((rd_T41 t322 x6_3).f0) != 3) = true := bne_iff_ne.mpr c16
                        by_cases c26 : ((rd_T41 t322 x6_3).f0) = 4
                        · rw [if_pos c26] at H
                          have c26b0 : (((rd_T41 t322 x6_3).f0) == 4) = true := beq_iff_eq.mpr c26
                          have c26b1 : (((rd_T41 t322 x6_3).f0) != 4) = false := bne_eq_false_iff_eq.mpr c26
                          clear c26
                          by_cases c27 : (true != (((rd_T41 t322 x6_3).f1) == 0)) = true
                          · rw [if_pos c27] at H
                            have c27b0 : (true != (((rd_T41 t322 x6_3).f1) == 0)) = true := c27
                            (try (have c27b1 : decide (true = (((rd_T41 t322 x6_3).f1) == 0)) = false := by simpa using c27))
                            (try (have c27b2 : (true == (((rd_T41 t322 x6_3).f1) == 0)) = false := by simpa using c27))
                            (try (have c27b3 : ¬ (true = (((rd_T41 t322 x6_3).f1) == 0)) := by simpa using c27))
                            clear c27
                            exact absurd ((Option.some.inj H).trans hr_.out) (by decide)
                          · rw [if_neg c27] at H
                            have c27b0 : (true != (((rd_T41 t322 x6_3).f1) == 0)) = false := by simpa using c27
                            (try (have c27b1 : decide (true = (((rd_T41 t322 x6_3).f1) == 0)) = true := by simpa using c27))
                            (try (have c27b2 : (true == (((rd_T41 t322 x6_3).f1) == 0)) = true := by simpa using c27))
                            clear c27
                            by_cases c28 : ((rd_T41 t322 x6_3).f1) > x1_11
                            · rw [if_pos c28] at H
                              have c28b0 : decide (x1_11 < ((rd_T41 t322 x6_3).f1)) = true := decide_eq_true c28
                              clear c28
                              exact absurd ((Option.some.inj H).trans hr_.out) (by decide)
                            · rw [if_neg c28] at H
                              have c28b0 : decide (x1_11 < ((rd_T41 t322 x6_3).f1)) = false := decide_eq_false c28
                              clear c28
                              by_cases c29 : ((rd_T41 t322 x6_3).f0) < 1
                              · rw [if_pos c29] at H
                                have c29b0 : decide (((rd_T41 t322 x6_3).f0) < 1) = true := decide_eq_true c29
                                clear c29
                                exact absurd ((Option.some.inj H).trans hr_.out) (by decide)
                              · rw [if_neg c29] at H
                                have c29b0 : decide (((rd_T41 t322 x6_3).f0) < 1) = false := decide_eq_false c29
                                clear c29
                                by_cases c30 : ((rd_T41 t322 x6_3).f0) > 12
                                · rw [if_pos c30] at H
                                  have c30b0 : decide (12 < ((rd_T41 t322 x6_3).f0)) = true := decide_eq_true c30
                                  clear c30
                                  exact absurd ((Option.some.inj H).trans hr_.out) (by decide)
                                · rw [if_neg c30] at H
                                  have c30b0 : decide (12 < ((rd_T41 t322 x6_3).f0)) = false := decide_eq_false c30
                                  clear c30
                                  by_cases c31 : ((rd_T41 t322 x6_3).f0) = 10
                                  · rw [if_pos c31] at H
                                    have c31b0 : (((rd_T41 t322 x6_3).f0) == 10) = true := beq_iff_eq.mpr c31
                                    have c31b1 : (((rd_T41 t322 x6_3).f0) != 10) = false := bne_eq_false_iff_eq.mpr c31
                                    clear c31
                                    exact absurd ((Option.some.inj H).trans hr_.out) (by decide)
                                  · rw [if_neg c31] at H
                                    have c31b0 : (((rd_T41 t322 x6_3).f0) == 10) = false := beq_eq_false_iff_ne.mpr c31
                                    have c31b1 : (((rd_T41 t322 x6_3).f0) != 10) = true := bne_iff_ne.mpr c31
                                    by_cases c32 : ((rd_T41 t322 x6_3).f0) = 11
                                    · rw [if_pos c32] at H
                                      have c32b0 : (((rd_T41 t322 x6_3).f0) == 11) = true := beq_iff_eq.mpr c32
                                      have c32b1 : (((rd_T41 t322 x6_3).f0) != 11) = false := bne_eq_false_iff_eq.mpr c32
                                      clear c32
                                      exact absurd ((Option.some.inj H).trans hr_.out) (by decide)
                                    · rw [if_neg c32] at H
                                      have c32b0 : (((rd_T41 t322 x6_3).f0) == 11) = false := beq_eq_false_iff_ne.mpr c32
                                      have c32b1 : (((rd_T41 t322 x6_3).f0) != 11) = true := bne_iff_ne.mpr c32
                                      have H' := Aside0.mk H
                                      clear H
                                      obtain ⟨Ao33, co33, eo33⟩ := Kd.S_slice HO_5.out
                                      subst eo33
                                      have p325 : 0 ≤ (x6_3 : Int) := of_decide_eq_true (by first | (with_reducible assumption) | assumption)
                                      have q325 : x6_3 < (t322.length : Int) := of_decide_eq_true (by first | (with_reducible assumption) | assumption)
                                      obtain ⟨ad325, A325_5, c325_5, e325, hx325_0, hx325_1, hx325_2, hx325_3, hx325_4, hx325_5, hx325_6, hx325_7, hx325_8, hx325_9, hx325_10, hl325_5, hi325_5⟩ := at_T41 (Kd.S_reads' HO_5.out).2.2 x6_3 p325 q325
                                      cases e325
                                      obtain ⟨ce325, hce325, hMe325, hcc325⟩ := Kd.S_get HO_5.out z41 x6_3 p325 (by first | exact q325 | exact of_decide_eq_true (by first | (with_reducible assumption) | assumption) | (have e_ := (Kd.S_reads' HO_5.out).1; omega))
                                      obtain ⟨ve325_5, rfl, ge325_5⟩ := k41_openM hMe325
                                      have hv325_5 := hcc325 5 _ rfl
                                      rw [add_field _ _ 5 (by omega)] at hv325_5
                                      replace hv325_5 := Option.some.inj (hv325_5.symm.trans hx325_5)
                                      rw [hv325_5] at ge325_5
                                      have HL325_5 := Aside0.mk (show Kd.R (Kd.int .i64) 3 _ _ _ _ ((rd_T41 t322 x6_3).f5) from ge325_5)
                                      clear hv325_5 ge325_5
                                      clear hcc325 hce325
                                      have HR325_5 := Aside0.mk hi325_5
                                      have HC325_5 := Aside0.mk hl325_5
                                      clear hi325_5 hl325_5
                                      replace p325 := eq_true p325
                                      replace q325 := eq_true q325
                                      go_wp2_with (first | ((with_reducible refine gate_dst (N := 7) rfl ?_); refine box_event ?hg (N := 7) ?hd (cs := #[.int .i64 0, .int .i64 0, .int .i64 0, .int .i64 0, .string (⟨#[]⟩ : ByteArray), .slice none 0 0, .int .u16 0, .int .u16 0, .int .u16 0, .int .i64 0, .int .i64 0]) (t := 41) ?hr ?_; (case hd => rfl); (case hg => rfl); (case hr => first | (go_simp; done) | (go_simp; rfl)); intro gb326 hg w34 hbox hb; have n0_ := Aside0.mk (Kd.S_below (Kd.S_elderB (by (with_reducible repeat (first | apply Kd.S_alloc | apply Kd.S_drewN | apply Kd.S_drew)); exact HO_5.out) gb326 (Nat.le_of_eq hg.symm)) hb); have n1_ := Aside0.mk (Kd.R_below (by (with_reducible repeat (first | apply Kd.R_alloc | apply Kd.R_drewN | apply Kd.R_drew)); exact HL325_5.out) hb); have n2_ := Aside0.mk (Kd.C_below (by repeat (first | (with_reducible exact HR325_5.out) | (with_reducible refine Kd.C_alloc ?_ _) | (with_reducible refine Kd.C_drewN ?_ _) | (with_reducible refine Kd.C_drew ?_) | exact HR325_5.out)) hb); have n3_ := Aside0.mk (below_step (by repeat (first | (with_reducible first | exact HB.out | apply below_alloc | apply pw_below_drewN | apply below_drew1) | exact HB.out)) hb); have n4_ := Aside0.mk (hbox); have n5_ := Aside0.mk ((by rw [hg]; exact (below_size (by repeat (first | (with_reducible first | exact HB.out | apply below_alloc | apply pw_below_drewN | apply below_drew1) | exact HB.out))) : w.heap.size ≤ gb326)); have n6_ := Aside0.mk ((by rw [hg]; exact (below_size (by repeat (first | (with_reducible first | exact HB.out | apply below_alloc | apply pw_below_drewN | apply below_drew1) | exact HB.out))) : w.heap.size ≤ gb326)); clear HO_5; clear HL325_5; clear HR325_5; clear HB; have HO_5 := n0_; have HL325_5 := n1_; have HR325_5 := n2_; have HB := n3_; have BK326 := n4_; have GW326 := n5_; have GE326 := n6_; clear n0_ n1_ n2_ n3_ n4_ n5_ n6_; clear hb hbox hg; have hcz35_0 : w34.cell? ⟨gb326, 0, none⟩ = some (.int .i64 0) := (blk_cell BK326.out 0).trans rfl; have hcz35_1 : w34.cell? ⟨gb326, 1, none⟩ = some (.int .i64 0) := (blk_cell BK326.out 1).trans rfl; have hcz35_2 : w34.cell? ⟨gb326, 2, none⟩ = some (.int .i64 0) := (blk_cell BK326.out 2).trans rfl; have hcz35_3 : w34.cell? ⟨gb326, 3, none⟩ = some (.int .i64 0) := (blk_cell BK326.out 3).trans rfl; have hcz35_4 : w34.cell? ⟨gb326, 4, none⟩ = some (.string (⟨#[]⟩ : ByteArray)) := (blk_cell BK326.out 4).trans rfl; have hcz35_5 : w34.cell? ⟨gb326, 5, none⟩ = some (.slice none 0 0) := (blk_cell BK326.out 5).trans rfl; have hcz35_6 : w34.cell? ⟨gb326, 6, none⟩ = some (.int .u16 0) := (blk_cell BK326.out 6).trans rfl; have hcz35_7 : w34.cell? ⟨gb326, 7, none⟩ = some (.int .u16 0) := (blk_cell BK326.out 7).trans rfl; have hcz35_8 : w34.cell? ⟨gb326, 8, none⟩ = some (.int .u16 0) := (blk_cell BK326.out 8).trans rfl; have hcz35_9 : w34.cell? ⟨gb326, 9, none⟩ = some (.int .i64 0) := (blk_cell BK326.out 9).trans rfl; have hcz35_10 : w34.cell? ⟨gb326, 10, none⟩ = some (.int .i64 0) := (blk_cell BK326.out 10).trans rfl; have hfz35_0 := blk_frozen BK326.out 0; have hfz35_1 := blk_frozen BK326.out 1; have hfz35_2 := blk_frozen BK326.out 2; have hfz35_3 := blk_frozen BK326.out 3; have hfz35_4 := blk_frozen BK326.out 4; have hfz35_5 := blk_frozen BK326.out 5; have hfz35_6 := blk_frozen BK326.out 6; have hfz35_7 := blk_frozen BK326.out 7; have hfz35_8 := blk_frozen BK326.out 8; have hfz35_9 := blk_frozen BK326.out 9; have hfz35_10 := blk_frozen BK326.out 10))
                                      go_roundg k3
                                      case measure => have := HJ7.out; have := HJ11.out; have := HK3.out; omega
                                      case rel => exact ⟨(wrap64 (x6_3 + 1)), (by first | rfl | (simp; done) | (simp [*]; done)), H', ⟨by have := HJ7.out; have := HJ11.out; have := HK3.out; omega⟩, ⟨by (with_reducible repeat (first | apply Kd.S_alloc | apply Kd.S_drewN | apply Kd.S_drew)); exact Kd.S_mono (Kd.S_far (p := ⟨gb326, 10, none⟩) (Kd.S_far (p := ⟨gb326, 9, none⟩) (Kd.S_far (p := ⟨gb326, 8, none⟩) (Kd.S_far (p := ⟨gb326, 7, none⟩) (Kd.S_far (p := ⟨gb326, 6, none⟩) (Kd.S_far (p := ⟨gb326, 5, none⟩) (Kd.S_far (p := ⟨gb326, 4, none⟩) (Kd.S_far (p := ⟨gb326, 3, none⟩) (Kd.S_far (p := ⟨gb326, 2, none⟩) (Kd.S_far (p := ⟨gb326, 1, none⟩) (Kd.S_far (p := ⟨gb326, 0, none⟩) (Kd.S_mono HO_5.out (fun k_ hk => (⟨hk, hk.2⟩ : _ ∧ k_ ≠ gb326))) (fun _ hk => hk.2) (.int .i64 ((rd_T41 t322 x6_3).f0))) (fun _ hk => hk.2) (.int .i64 ((rd_T41 t322 x6_3).f1))) (fun _ hk => hk.2) (.int .i64 ((rd_T41 t322 x6_3).f2))) (fun _ hk => hk.2) (.int .i64 ((rd_T41 t322 x6_3).f3))) (fun _ hk => hk.2) (.string ((rd_T41 t322 x6_3).f4))) (fun _ hk => hk.2) (.slice A325_5 ((rd_T41 t322 x6_3).f5).length c325_5)) (fun _ hk => hk.2) (.int .u16 ((rd_T41 t322 x6_3).f6.f0))) (fun _ hk => hk.2) (.int .u16 ((rd_T41 t322 x6_3).f6.f1))) (fun _ hk => hk.2) (.int .u16 ((rd_T41 t322 x6_3).f6.f2))) (fun _ hk => hk.2) (.int .i64 ((rd_T41 t322 x6_3).f6.f3))) (fun _ hk => hk.2) (.int .i64 ((rd_T41 t322 x6_3).f6.f4))) (fun _ hk => trivial)⟩, ⟨by repeat (first | (with_reducible first | exact HB.out | apply below_alloc | apply pw_below_drewN | apply below_drew1 | refine below_set ?_ GE326.out) | exact HB.out)⟩⟩
                        · rw [if_neg c26] at H
                          have c26b0 : (((rd_T41 t322 x6_3).f0) == 4) = false := beq_eq_false_iff_ne.mpr c26
                          have c26b1 : (((rd_T41 t322 x6_3).f0) != 4) = true := bne_iff_ne.mpr c26
                          by_cases c36 : ((((rd_T41 t322 x6_3).f0) == 5) != (((rd_T41 t322 x6_3).f1) == 0)) = true
                          · rw [if_pos c36] at H
                            have c36b0 : ((((rd_T41 t322 x6_3).f0) == 5) != (((rd_T41 t322 x6_3).f1) == 0)) = true := c36
                            (try (have c36b1 : decide ((((rd_T41 t322 x6_3).f0) == 5) = (((rd_T41 t322 x6_3).f1) == 0)) = false := by simpa using c36))
                            (try (have c36b2 : ((((rd_T41 t322 x6_3).f0) == 5) == (((rd_T41 t322 x6_3).f1) == 0)) = false := by simpa using c36))
                            (try (have c36b3 : ¬ ((((rd_T41 t322 x6_3).f0) == 5) = (((rd_T41 t322 x6_3).f1) == 0)) := by simpa using c36))
                            clear c36
                            exact absurd ((Option.some.inj H).trans hr_.out) (by decide)
                          · rw [if_neg c36] at H
                            have c36b0 : ((((rd_T41 t322 x6_3).f0) == 5) != (((rd_T41 t322 x6_3).f1) == 0)) = false := by simpa using c36
                            (try (have c36b1 : decide ((((rd_T41 t322 x6_3).f0) == 5) = (((rd_T41 t322 x6_3).f1) == 0)) = true := by simpa using c36))
                            (try (have c36b2 : ((((rd_T41 t322 x6_3).f0) == 5) == (((rd_T41 t322 x6_3).f1) == 0)) = true := by simpa using c36))
                            clear c36
                            by_cases c37 : ((rd_T41 t322 x6_3).f1) > x1_11
                            · rw [if_pos c37] at H
                              have c37b0 : decide (x1_11 < ((rd_T41 t322 x6_3).f1)) = true := decide_eq_true c37
                              clear c37
                              exact absurd ((Option.some.inj H).trans hr_.out) (by decide)
                            · rw [if_neg c37] at H
                              have c37b0 : decide (x1_11 < ((rd_T41 t322 x6_3).f1)) = false := decide_eq_false c37
                              clear c37
                              by_cases c38 : ((rd_T41 t322 x6_3).f0) < 1
                              · rw [if_pos c38] at H
                                have c38b0 : decide (((rd_T41 t322 x6_3).f0) < 1) = true := decide_eq_true c38
                                clear c38
                                exact absurd ((Option.some.inj H).trans hr_.out) (by decide)
                              · rw [if_neg c38] at H
                                have c38b0 : decide (((rd_T41 t322 x6_3).f0) < 1) = false := decide_eq_false c38
                                clear c38
                                by_cases c39 : ((rd_T41 t322 x6_3).f0) > 12
                                · rw [if_pos c39] at H
                                  have c39b0 : decide (12 < ((rd_T41 t322 x6_3).f0)) = true := decide_eq_true c39
                                  clear c39
                                  exact absurd ((Option.some.inj H).trans hr_.out) (by decide)
                                · rw [if_neg c39] at H
                                  have c39b0 : decide (12 < ((rd_T41 t322 x6_3).f0)) = false := decide_eq_false c39
                                  clear c39
                                  by_cases c40 : ((rd_T41 t322 x6_3).f0) = 10
                                  · rw [if_pos c40] at H
                                    have c40b0 : (((rd_T41 t322 x6_3).f0) == 10) = true := beq_iff_eq.mpr c40
                                    have c40b1 : (((rd_T41 t322 x6_3).f0) != 10) = false := bne_eq_false_iff_eq.mpr c40
                                    clear c40
                                    exact absurd ((Option.some.inj H).trans hr_.out) (by decide)
                                  · rw [if_neg c40] at H
                                    have c40b0 : (((rd_T41 t322 x6_3).f0) == 10) = false := beq_eq_false_iff_ne.mpr c40
                                    have c40b1 : (((rd_T41 t322 x6_3).f0) != 10) = true := bne_iff_ne.mpr c40
                                    by_cases c41 : ((rd_T41 t322 x6_3).f0) = 11
                                    · rw [if_pos c41] at H
                                      have c41b0 : (((rd_T41 t322 x6_3).f0) == 11) = true := beq_iff_eq.mpr c41
                                      have c41b1 : (((rd_T41 t322 x6_3).f0) != 11) = false := bne_eq_false_iff_eq.mpr c41
                                      clear c41
                                      exact absurd ((Option.some.inj H).trans hr_.out) (by decide)
                                    · rw [if_neg c41] at H
                                      have c41b0 : (((rd_T41 t322 x6_3).f0) == 11) = false := beq_eq_false_iff_ne.mpr c41
                                      have c41b1 : (((rd_T41 t322 x6_3).f0) != 11) = true := bne_iff_ne.mpr c41
                                      have H' := Aside0.mk H
                                      clear H
                                      obtain ⟨Ao42, co42, eo42⟩ := Kd.S_slice HO_5.out
                                      subst eo42
                                      have p325 : 0 ≤ (x6_3 : Int) := of_decide_eq_true (by first | (with_reducible assumption) | assumption)
                                      have q325 : x6_3 < (t322.length : Int) := of_decide_eq_true (by first | (with_reducible assumption) | assumption)
                                      obtain ⟨ad325, A325_5, c325_5, e325, hx325_0, hx325_1, hx325_2, hx325_3, hx325_4, hx325_5, hx325_6, hx325_7, hx325_8, hx325_9, hx325_10, hl325_5, hi325_5⟩ := at_T41 (Kd.S_reads' HO_5.out).2.2 x6_3 p325 q325
                                      cases e325
                                      obtain ⟨ce325, hce325, hMe325, hcc325⟩ := Kd.S_get HO_5.out z41 x6_3 p325 (by first | exact q325 | exact of_decide_eq_true (by first | (with_reducible assumption) | assumption) | (have e_ := (Kd.S_reads' HO_5.out).1; omega))
                                      obtain ⟨ve325_5, rfl, ge325_5⟩ := k41_openM hMe325
                                      have hv325_5 := hcc325 5 _ rfl
                                      rw [add_field _ _ 5 (by omega)] at hv325_5
                                      replace hv325_5 := Option.some.inj (hv325_5.symm.trans hx325_5)
                                      rw [hv325_5] at ge325_5
                                      have HL325_5 := Aside0.mk (show Kd.R (Kd.int .i64) 3 _ _ _ _ ((rd_T41 t322 x6_3).f5) from ge325_5)
                                      clear hv325_5 ge325_5
                                      clear hcc325 hce325
                                      have HR325_5 := Aside0.mk hi325_5
                                      have HC325_5 := Aside0.mk hl325_5
                                      clear hi325_5 hl325_5
                                      replace p325 := eq_true p325
                                      replace q325 := eq_true q325
                                      go_wp2_with (first | ((with_reducible refine gate_dst (N := 7) rfl ?_); refine box_event ?hg (N := 7) ?hd (cs := #[.int .i64 0, .int .i64 0, .int .i64 0, .int .i64 0, .string (⟨#[]⟩ : ByteArray), .slice none 0 0, .int .u16 0, .int .u16 0, .int .u16 0, .int .i64 0, .int .i64 0]) (t := 41) ?hr ?_; (case hd => rfl); (case hg => rfl); (case hr => first | (go_simp; done) | (go_simp; rfl)); intro gb326 hg w43 hbox hb; have n0_ := Aside0.mk (Kd.S_below (Kd.S_elderB (by (with_reducible repeat (first | apply Kd.S_alloc | apply Kd.S_drewN | apply Kd.S_drew)); exact HO_5.out) gb326 (Nat.le_of_eq hg.symm)) hb); have n1_ := Aside0.mk (Kd.R_below (by (with_reducible repeat (first | apply Kd.R_alloc | apply Kd.R_drewN | apply Kd.R_drew)); exact HL325_5.out) hb); have n2_ := Aside0.mk (Kd.C_below (by repeat (first | (with_reducible exact HR325_5.out) | (with_reducible refine Kd.C_alloc ?_ _) | (with_reducible refine Kd.C_drewN ?_ _) | (with_reducible refine Kd.C_drew ?_) | exact HR325_5.out)) hb); have n3_ := Aside0.mk (below_step (by repeat (first | (with_reducible first | exact HB.out | apply below_alloc | apply pw_below_drewN | apply below_drew1) | exact HB.out)) hb); have n4_ := Aside0.mk (hbox); have n5_ := Aside0.mk ((by rw [hg]; exact (below_size (by repeat (first | (with_reducible first | exact HB.out | apply below_alloc | apply pw_below_drewN | apply below_drew1) | exact HB.out))) : w.heap.size ≤ gb326)); have n6_ := Aside0.mk ((by rw [hg]; exact (below_size (by repeat (first | (with_reducible first | exact HB.out | apply below_alloc | apply pw_below_drewN | apply below_drew1) | exact HB.out))) : w.heap.size ≤ gb326)); clear HO_5; clear HL325_5; clear HR325_5; clear HB; have HO_5 := n0_; have HL325_5 := n1_; have HR325_5 := n2_; have HB := n3_; have BK326 := n4_; have GW326 := n5_; have GE326 := n6_; clear n0_ n1_ n2_ n3_ n4_ n5_ n6_; clear hb hbox hg; have hcz44_0 : w43.cell? ⟨gb326, 0, none⟩ = some (.int .i64 0) := (blk_cell BK326.out 0).trans rfl; have hcz44_1 : w43.cell? ⟨gb326, 1, none⟩ = some (.int .i64 0) := (blk_cell BK326.out 1).trans rfl; have hcz44_2 : w43.cell? ⟨gb326, 2, none⟩ = some (.int .i64 0) := (blk_cell BK326.out 2).trans rfl; have hcz44_3 : w43.cell? ⟨gb326, 3, none⟩ = some (.int .i64 0) := (blk_cell BK326.out 3).trans rfl; have hcz44_4 : w43.cell? ⟨gb326, 4, none⟩ = some (.string (⟨#[]⟩ : ByteArray)) := (blk_cell BK326.out 4).trans rfl; have hcz44_5 : w43.cell? ⟨gb326, 5, none⟩ = some (.slice none 0 0) := (blk_cell BK326.out 5).trans rfl; have hcz44_6 : w43.cell? ⟨gb326, 6, none⟩ = some (.int .u16 0) := (blk_cell BK326.out 6).trans rfl; have hcz44_7 : w43.cell? ⟨gb326, 7, none⟩ = some (.int .u16 0) := (blk_cell BK326.out 7).trans rfl; have hcz44_8 : w43.cell? ⟨gb326, 8, none⟩ = some (.int .u16 0) := (blk_cell BK326.out 8).trans rfl; have hcz44_9 : w43.cell? ⟨gb326, 9, none⟩ = some (.int .i64 0) := (blk_cell BK326.out 9).trans rfl; have hcz44_10 : w43.cell? ⟨gb326, 10, none⟩ = some (.int .i64 0) := (blk_cell BK326.out 10).trans rfl; have hfz44_0 := blk_frozen BK326.out 0; have hfz44_1 := blk_frozen BK326.out 1; have hfz44_2 := blk_frozen BK326.out 2; have hfz44_3 := blk_frozen BK326.out 3; have hfz44_4 := blk_frozen BK326.out 4; have hfz44_5 := blk_frozen BK326.out 5; have hfz44_6 := blk_frozen BK326.out 6; have hfz44_7 := blk_frozen BK326.out 7; have hfz44_8 := blk_frozen BK326.out 8; have hfz44_9 := blk_frozen BK326.out 9; have hfz44_10 := blk_frozen BK326.out 10))
                                      go_roundg k3
                                      case measure => have := HJ7.out; have := HJ11.out; have := HK3.out; omega
                                      case rel => exact ⟨(wrap64 (x6_3 + 1)), (by first | rfl | (simp; done) | (simp [*]; done)), H', ⟨by have := HJ7.out; have := HJ11.out; have := HK3.out; omega⟩, ⟨by (with_reducible repeat (first | apply Kd.S_alloc | apply Kd.S_drewN | apply Kd.S_drew)); exact Kd.S_mono (Kd.S_far (p := ⟨gb326, 10, none⟩) (Kd.S_far (p := ⟨gb326, 9, none⟩) (Kd.S_far (p := ⟨gb326, 8, none⟩) (Kd.S_far (p := ⟨gb326, 7, none⟩) (Kd.S_far (p := ⟨gb326, 6, none⟩) (Kd.S_far (p := ⟨gb326, 5, none⟩) (Kd.S_far (p := ⟨gb326, 4, none⟩) (Kd.S_far (p := ⟨gb326, 3, none⟩) (Kd.S_far (p := ⟨gb326, 2, none⟩) (Kd.S_far (p := ⟨gb326, 1, none⟩) (Kd.S_far (p := ⟨gb326, 0, none⟩) (Kd.S_mono HO_5.out (fun k_ hk => (⟨hk, hk.2⟩ : _ ∧ k_ ≠ gb326))) (fun _ hk => hk.2) (.int .i64 ((rd_T41 t322 x6_3).f0))) (fun _ hk => hk.2) (.int .i64 ((rd_T41 t322 x6_3).f1))) (fun _ hk => hk.2) (.int .i64 ((rd_T41 t322 x6_3).f2))) (fun _ hk => hk.2) (.int .i64 ((rd_T41 t322 x6_3).f3))) (fun _ hk => hk.2) (.string ((rd_T41 t322 x6_3).f4))) (fun _ hk => hk.2) (.slice A325_5 ((rd_T41 t322 x6_3).f5).length c325_5)) (fun _ hk => hk.2) (.int .u16 ((rd_T41 t322 x6_3).f6.f0))) (fun _ hk => hk.2) (.int .u16 ((rd_T41 t322 x6_3).f6.f1))) (fun _ hk => hk.2) (.int .u16 ((rd_T41 t322 x6_3).f6.f2))) (fun _ hk => hk.2) (.int .i64 ((rd_T41 t322 x6_3).f6.f3))) (fun _ hk => hk.2) (.int .i64 ((rd_T41 t322 x6_3).f6.f4))) (fun _ hk => trivial)⟩, ⟨by repeat (first | (with_reducible first | exact HB.out | apply below_alloc | apply pw_below_drewN | apply below_drew1 | refine below_set ?_ GE326.out) | exact HB.out)⟩⟩
                    · rw [if_neg c15] at H
                      exact absurd H (by simp)
                  · rw [if_neg c14] at H
                    have c14b0 : decide (x6_3 < (t322.length : Int)) = false := decide_eq_false c14
                    clear c14
                    obtain rfl := Option.some.inj H
                    obtain ⟨Ao45, co45, eo45⟩ := Kd.S_slice HO_5.out
                    subst eo45
                    go_wp2
                    go_ret
                    exact ⟨by first | rfl | (simp [errW_none, errW_some] <;> rfl) | (simp [*, errW_none, errW_some] <;> rfl), by repeat (first | (with_reducible first | exact HB.out | apply below_alloc | apply pw_below_drewN | apply below_drew1) | exact HB.out)⟩
  · replace c4 := Bool.eq_false_iff.mpr c4
    subst c4
    have H1 : (some false) = some r := by rw [if_neg (show ¬ (false = true) by decide)] at H; exact H
    clear H
    have H := H1
    clear H1
    exact absurd ((Option.some.inj H).trans hr_.out) (by decide)

/-- THE ONE PURE STATEMENT of antipodelaw29_ScriptNodes: yours. -/
def antipodelaw29_ScriptNodes.Pure : Prop := ∀ (l0 : List Int) (a1 : Int), l0.length ≤ maxLen → l0.length * 1 ≤ 140737488351232 → (∀ x ∈ l0, (Lit.int .u8 x).wf = true) → (Lit.int .i64 a1).wf = true → ∃ k, antipodelaw29_ScriptNodes.f k l0 a1 = some true
theorem antipodelaw29_ScriptNodes.walk (P : antipodelaw29_ScriptNodes.Pure) (a0 : Option Addr) (len0 cap0 : Nat) (z0 : List Int) (a1 : Int) (w : World) (w0 : (a0 = none ∧ len0 = 0 ∧ cap0 = 0 ∧ z0 = []) ∨ ∃ x, a0 = some x ∧ len0 ≤ cap0 ∧ cap0 ≤ maxLen ∧ z0.length = cap0 ∧ (∀ i, i < z0.length → w.cell? (x.add i) = some (.int .u8 (z0.getD i 0))) ∧ ∀ n ∈ z0, (Lit.int .u8 n).wf = true) (y0 : len0 * 1 ≤ 140737488351232) (w1 : (Lit.int .i64 a1).wf = true) :
    Calls Try.prog 6 #[.slice a0 len0 cap0, .int .i64 a1] w fun e w' => e = .returned (.bool true) ∧ Below w.heap.size w w' := by
  obtain ⟨l0, rfl, hr0, hm0, hw0, hc0⟩ := ReadsInt.ofRowC w0
  obtain ⟨k, h⟩ := P l0 a1 hm0 y0 hw0 w1
  refine (antipodelaw29_ScriptNodes.calls k _ _ l0 a1 true w (Kd.C_of_reads (d := (0 : Int)) (h1 := fun _ => rfl) hr0) hc0 ⟨rfl⟩ h).mono ?_
  rintro e w' ⟨rfl, hd⟩
  exact ⟨rfl, hd⟩

end Go.Proofs.Ytpoejopnjkcdpaa.QA

/- Written by a program of this session (wip/myprint.sh): contracts of Go functions of the translation: each call comes to what the Lean function of its name says. -/
import Derived.Test.YtjfgapaohldbkaaZQAll
import Derived.Test.YtjfgapaohldbkaaZQAx12
namespace Go.Proofs.Ytjfgapaohldbkaa.QA
open Go.RowKit Go.Proofs.YtjfgapaohldbkaaW.PrintWords Go.Proofs.YtjfgapaohldbkaaW.PrintLast Go.Proofs.YtjfgapaohldbkaaW.PrintMore
attribute [local go_sem] max2_int min2_int max_two min_two max_three min_three max_four min_four   -- for this text's walks alone
set_option linter.unusedVariables false
set_option linter.unusedSimpArgs false
def antipoderef1_Text.f (k : Nat) (l0 : List Int) (l1 : List Int) : Option (List Int) := (antipoderef1_Var.f k l0 (IntKind.u64.wrap ((l1.length : Int)))).bind fun t367 => (if t367.length + l1.length < 140737488355328 then (some (t367 ++ l1)) else (none))
set_option maxHeartbeats 8000000 in
set_option maxRecDepth 100000 in
theorem antipoderef1_Text.calls (k : Nat) (A0 : Option Addr) (c0 : Nat) (l0 : List Int) (A1 : Option Addr) (c1 : Nat) (l1 : List Int) (r : List Int) (w : World) (hr0 : Kd.C (Kd.int .u8) w A0 l0.length l0) (hc0 : l0.length ≤ c0) (hr1 : Kd.C (Kd.int .u8) w A1 l1.length l1) (hc1 : l1.length ≤ c1) (h : antipoderef1_Text.f k l0 l1 = some r) :
  Calls Try.prog 88 #[.slice A0 l0.length c0, .slice A1 l1.length c1] w fun e w' => ∃ v0_ : Value, e = .returned (v0_) ∧ Kd.R (Kd.int .u8) 5 w' w.heap.size (fun _ => True) v0_ r ∧ Below w.heap.size w w' := by
 have HR0 := Aside0.mk hr0
 have HC0 := Aside0.mk hc0
 clear hr0 hc0
 have HR1 := Aside0.mk hr1
 have HC1 := Aside0.mk hc1
 clear hr1 hc1
 have HB := Aside0.mk (Below.refl w.heap.size w)
 have H : ((antipoderef1_Var.f k l0 (IntKind.u64.wrap ((l1.length : Int)))).bind fun t367 => (if t367.length + l1.length < 140737488355328 then (some (t367 ++ l1)) else (none))) = some r := h
 clear h
 replace H := Option.bind_eq_some_iff.mp H
 obtain ⟨t367, A30, H⟩ := H
 replace H : (if t367.length + l1.length < 140737488355328 then (some (t367 ++ l1)) else (none)) = some r := H
 have A3 := Aside0.mk A30
 clear A30
 by_cases c4 : t367.length + l1.length < 140737488355328
 ·rw [if_pos c4] at H
  have LMc4 := Aside0.mk c4
  clear c4
  obtain ⟨y370, hy370⟩ : ∃ y_ : List Int, y_ = (t367 ++ l1) := ⟨_, rfl⟩
  replace H : (some y370) = some r := by first | (rw [hy370]; with_reducible exact H) | (have H2_ := (Option.bind_some _ _).symm.trans H; rw [hy370]; with_reducible exact H2_) | (have H2_ := (Option.bind_some _ _).symm.trans H; with_reducible exact H2_) | with_reducible exact H | (rw [hy370]; exact H) | exact H
  have Ny370 := Aside0.mk hy370
  clear hy370
  obtain rfl := Option.some.inj H
  go_enter Try.func88, Try.ntmps88
  go_wp2_with (first | ((with_reducible refine gate_callee (f := 85) rfl ?_); refine qL (some 9) Try.func85 #[.slice A0 l0.length c0, .int .u64 (IntKind.u64.wrap ((l1.length : Int)))] ?_; (with_reducible refine (antipoderef1_Var.calls k _ _ l0 (IntKind.u64.wrap ((l1.length : Int))) t367 _ ?side1 ?side2 A3.out).mono ?_); (case side1 => exact qC HR0.out); (case side2 => exact HC0.out); rintro e w5 ⟨v368, rfl, ho0, hb⟩; refine ⟨_, rfl, ?_⟩; have HO369 := Aside0.mk (Kd.R_lower ho0 (below_size (qB HB.out))); replace HB := Aside0.mk (below_step (qB HB.out) hb); (try clear hb); (try clear hb2); (try clear hk); (try clear hi); (try clear ho0)) | ((with_reducible refine gate_builtin (b := .append) (xs := #[.tmp 9, .tmp 10]) rfl ?_); at_builtin; refine Kd.R_append_rows (Kd.int .u8) (w0 := w) w.heap.size rfl (.tmp 9) (.tmp 10) 46 5 (.int .u8 0) 1 rfl Try.underlying46 info5 rfl (by decide) (by omega) v368 t367 l1 _ _ _ (fun _ => True) (fun _ => False) rfl rfl ?aO ?aR (fun _ _ h => h) (fun _ h => h.elim) ?aF ?aB ?aS ?aL ?_; (case aR => exact qC (Kd.C_below HR1.out HB.out)); (case aB => exact (qB HB.out)); (case aF => exact (fun _ _ => trivial)); (case aO => exact (qR HO369.out)); (case aS => exact (below_size (qB HB.out))); (case aL => have := LMc4.out; omega); intro v371 w6 ho hb hg hat; rw [← Ny370.out] at ho; replace HB := Aside0.mk (hb); have HO372 := Aside0.mk (ho); clear HO369; clear ho hb hg hat))
  go_ret
  exact ⟨_, by first | rfl | (simp [errW_none, errW_some] <;> rfl) | (simp [*, errW_none, errW_some] <;> rfl), qR HO372.out, qB HB.out⟩
 ·rw [if_neg c4] at H
  exact absurd H (by simp)
def antipoderef14_t.f (k : Nat) (l0 : List Int) (a1 : ByteArray) : Option (List Int) := antipoderef1_Text.f k l0 (bytesOf a1)
theorem antipoderef14_t.short {k : Nat} {l0 l1 r : List Int} (h : antipoderef1_Text.f k l0 l1 = some r) : l1.length ≤ 9223372036854775807 := by
 unfold antipoderef1_Text.f at h
 obtain ⟨t, _, h⟩ := Option.bind_eq_some_iff.mp h
 by_cases c : t.length + l1.length < 140737488355328
 ·omega
 ·rw [if_neg c] at h; cases h
set_option maxHeartbeats 4000000 in
theorem antipoderef14_t.calls (k : Nat) (A0 : Option Addr) (c0 : Nat) (l0 : List Int) (a1 : ByteArray) (r : List Int) (w : World) (hr0 : Kd.C (Kd.int .u8) w A0 l0.length l0) (hc0 : l0.length ≤ c0) (h : antipoderef14_t.f k l0 a1 = some r) :
  Calls Try.prog 52 #[.slice A0 l0.length c0, .string a1] w fun e w' => ∃ v0_ : Value, e = .returned (v0_) ∧ Kd.R (Kd.int .u8) 5 w' w.heap.size (fun _ => True) v0_ r ∧ Below w.heap.size w w' := by
 have HR0 := Aside0.mk hr0
 have HC0 := Aside0.mk hc0
 have HH := Aside0.mk (show antipoderef1_Text.f k l0 (bytesOf a1) = some r from h)
 have HS := Aside0.mk (antipoderef14_t.short HH.out)
 clear hr0 hc0 h
 go_enter Try.func52, Try.ntmps52
 go_wp2_with (first | ((with_reducible refine gate_dst (N := 7) rfl ?_); refine Kd.bytes_event ?hg (N := 7) ?hd 9 46 5 (.tmp 6) (u := .string) ?ho Try.underlying9 Try.underlying46 Try.underlying5 a1 ?hx HS.out ?_; (case hg => rfl); (case hd => rfl); (case ho => rfl); (case hx => rfl); intro A1 c1 w1 hr1 hc1 hb; have HR1 := Aside0.mk hr1; have HC1 := Aside0.mk hc1; have HB := Aside0.mk hb; clear hr1 hc1 hb) | ((with_reducible refine gate_callee (f := 88) rfl ?_); refine qL (some 8) Try.func88 #[.slice A0 l0.length c0, .slice A1 (bytesOf a1).length c1] ?_; (with_reducible refine (antipoderef1_Text.calls k _ _ l0 _ _ (bytesOf a1) r _ (Kd.C_below HR0.out HB.out) HC0.out HR1.out HC1.out HH.out).mono ?_); rintro e w2 ⟨v, rfl, ho, hb⟩; refine ⟨_, rfl, ?_⟩; have HO := Aside0.mk (Kd.R_lower ho (below_size HB.out)); have HB2 := Aside0.mk (below_step HB.out hb); clear ho hb HB))
 go_ret
 exact ⟨_, rfl, HO.out, HB2.out⟩
end Go.Proofs.Ytjfgapaohldbkaa.QA


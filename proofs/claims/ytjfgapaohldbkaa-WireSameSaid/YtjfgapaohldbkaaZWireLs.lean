/- The method list of package wire's reader: it reads as many things as are told, each by a function value that is called; and attempts, moments. Conditions: what that function value comes to. -/
import Derived.Test.YtjfgapaohldbkaaZQAll
import Derived.Test.YtjfgapaohldbkaaZWireRd
import Derived.Test.YtjfgapaohldbkaaZWireBlk
namespace Go.Proofs.Ytjfgapaohldbkaa.WireRd
open Go.RowKit Go.Proofs.Ytjfgapaohldbkaa.QA Go.Proofs.YtjfgapaohldbkaaW.PrintWords Go.Proofs.YtjfgapaohldbkaaW.PrintLast Go.Proofs.YtjfgapaohldbkaaW.PrintMore Go.Proofs.Ytjfgapaohldbkaa.Facts Go.Proofs.Ytjfgapaohldbkaa.Codec Go.Proofs.Ytjfgapaohldbkaa.WireC Go.Proofs.Ytjfgapaohldbkaa.WireBlk
attribute [local go_sem] max2_int min2_int max_two min_two max_three min_three max_four min_four
set_option linter.unusedVariables false
set_option linter.unusedSimpArgs false
section
variable {T M : Nat} {W0 w w1 : World} {g gb : Nat} {l : List Int} {s : Bool}
theorem RD.only (h : RD T W0 w g l s) (hg : w.grownBy w1 (some gb)) (hne : g ≠ gb) (hle : W0.heap.size ≤ gb) : RD T W0 w1 g l s := by
 obtain ⟨A, c, h1, h2, h3, h4, h5, h6⟩ := h
 exact ⟨A, c, blk_only h1 hg hne, h2, h3, h4, below_only h5 hg hle h5.size, h6⟩
theorem RD.belowM (h : RD T W0 w g l s) (hb : Below M w w1) (hg : g < M) (hW : W0.heap.size ≤ M) : RD T W0 w1 g l s := by
 obtain ⟨A, c, h1, h2, h3, h4, h5, h6⟩ := h
 exact ⟨A, c, (hb.block g hg).trans h1, h2, h3, h4, below_weaken h5 hW hb, h6⟩
end
def Own {α : Type} (d : Kd α) (e : Nat) (w : World) (M : Nat) (v : Value) (xs : List α) : Prop := Kd.R d e w M (fun k => M ≤ k) v xs
section
variable {α : Type} {d : Kd α} {e M g : Nat} {w w1 : World} {v : Value} {xs : List α}
theorem Own.nil (d : Kd α) (e : Nat) (w : World) (M : Nat) : Own d e w M (.slice none 0 0) [] := Kd.R_nil d e w M _
theorem Own.keep (h : Own d e w M v xs) (k : KeepBut w w1 g none) (hg : g < M) : Own d e w1 M v xs := Kd.R_keep h k (fun k_ h_ => Nat.ne_of_gt (Nat.lt_of_lt_of_le hg h_))
theorem Own.only (h : Own d e w M v xs) (hb : w.grownBy w1 (some g)) (hg : g < M) : Own d e w1 M v xs := R_only h hb (fun k_ h_ => Nat.ne_of_gt (Nat.lt_of_lt_of_le hg h_))
theorem Own.below (h : Own d e w M v xs) (hb : Below w.heap.size w w1) : Own d e w1 M v xs := Kd.R_below h hb
end
theorem rep_cont {α : Type} {p : Pr α} {n : Nat} {l l1 l2 l0 : List Int} {s s1 s2 s0 : Bool} {x : α} {xs ys : List α} (h : Step p l1 s1 x l2 s2) (hc : ∀ ys l3 s3, Step (Pr.rep p (n + 1)) l1 s1 ys l3 s3 → Step (pL p) l s (xs ++ ys) l3 s3) (k : Step (Pr.rep p n) l2 s2 ys l0 s0) : Step (pL p) l s ((xs ++ [x]) ++ ys) l0 s0 := by
 rw [List.append_assoc]
 exact hc ([x] ++ ys) l0 s0 (h.bind (k.bind (Step.pure _ _ _)))
theorem pl_start {α : Type} {p : Pr α} {l l1 l2 : List Int} {s s1 s2 : Bool} {n : Int} {ys : List α} (h : Step pN l s n l1 s1) (h0 : ¬ n < 0) (h1 : ¬ n > 65536) (k : Step (Pr.rep p n.toNat) l1 s1 ys l2 s2) : Step (pL p) l s ([] ++ ys) l2 s2 := by
 refine h.bind ?_
 rw [if_neg (by omega)]
 exact k
theorem pl_bad {α : Type} {p : Pr α} {l l1 l2 : List Int} {s s1 : Bool} {n : Int} {ys : List α} (h : Step pN l s n l1 s1) (hn : n < 0 ∨ n > 65536) : Step (pL p) l s ys l2 true := by
 refine h.bind ?_
 rw [if_pos hn]
 exact Step.no _ _ _ _
def Listed {α : Type} (W0 : World) (g : Nat) (p : Pr α) (I : World → List α → Prop) (l : List Int) (s : Bool) (e : Ending) (w' : World) : Prop := ∃ xs l' s', e = .returned (.tuple #[]) ∧ I w' xs ∧ RD 101 W0 w' g l' s' ∧ Step (pL p) l s xs l' s' ∧ xs.length ≤ 65536
def One {α : Type} (W0 : World) (g : Nat) (p : Pr α) (I : World → List α → Prop) (xs : List α) (l : List Int) (s : Bool) (e : Ending) (w' : World) : Prop := ∃ x l' s', e = .returned (.tuple #[]) ∧ I w' (xs ++ [x]) ∧ RD 101 W0 w' g l' s' ∧ Step p l s x l' s'
structure Hd {α : Type} (W0 : World) (g : Nat) (p : Pr α) (I : World → List α → Prop) (l : List Int) (s : Bool) (kq : Nat) (n : Int) (xs : List α) (l1 : List Int) (s1 : Bool) (w : World) : Prop where
 rd : RD 101 W0 w g l1 s1
 inv : I w xs
 cont : ∀ ys l2 s2, Step (Pr.rep p n.toNat) l1 s1 ys l2 s2 → Step (pL p) l s (xs ++ ys) l2 s2
 few : xs.length ≤ 65536
 left : s1 = true ∧ kq = 1 ∨ 0 ≤ n ∧ n ≤ 65536 ∧ kq = n.toNat + 1 ∧ xs.length + n.toNat ≤ 65536
set_option maxHeartbeats 4000000 in
set_option maxRecDepth 100000 in
theorem list_calls {α : Type} {p : Pr α} {K : Nat} {fn : Func} (hf : Try.prog.funcs[K]? = some fn) (hname : (fn.name == "runtime.NumGoroutine") = false) (hbody : fn.body.isSome = true) (cap : Array Value) {I : World → List α → Prop} {W0 w : World} {g : Nat} {l : List Int} {s : Bool}
  (hkeep : ∀ w w' xs, I w xs → KeepBut w w' g none → I w' xs)
  (hone : ∀ w xs l s, I w xs → RD 101 W0 w g l s → xs.length < 65536 → Calls Try.prog K cap w (One W0 g p I xs l s))
  (h : RD 101 W0 w g l s) (hI : I w []) :
  Calls Try.prog 61 #[.pointer (some ⟨g, 0, none⟩), .func (.func K) #[] cap] w (Listed W0 g p I l s) := by
 have HR := Aside0.mk h
 have HI := Aside0.mk hI
 have HF := Aside0.mk hf
 have HN := Aside0.mk hname
 have HB := Aside0.mk hbody
 have HKP := Aside0.mk hkeep
 have H1 := Aside0.mk hone
 clear h hI hf hname hbody hkeep hone
 go_enter Try.func61, Try.ntmps61
 go_upto_region 1 with (first | ((with_reducible refine gate_callee (f := 59) rfl ?_); refine qL (some 6) Try.func59 #[.pointer (some ⟨g, 0, none⟩)] ?_; (with_reducible refine (num_calls HR.out).mono ?_); rintro e w1 ⟨n, l1, s1, rfl, h1, k1, st, gd⟩; refine ⟨_, rfl, ?_⟩; have HR1 := Aside0.mk h1; have HI1 := Aside0.mk (HKP.out _ _ _ HI.out k1); have HS := Aside0.mk st; have HG := Aside0.mk gd; have hc1 := h1.flag_cell; have hf1 := h1.flag_free; clear h1 k1 st gd))
 by_cases c1 : n < 0
 ·have d1 : decide (n < 0) = true := decide_eq_true c1
  have HD := Aside0.mk (show Hd W0 g p I l s 1 n [] l1 true (w1.setCell ⟨g, 1, none⟩ (.bool true)) from ⟨HR1.out.setFlag true, HKP.out _ _ _ HI1.out keep_set, fun ys l2 s2 k => by rw [k.1 rfl]; exact pl_bad HS.out (.inl c1), Nat.zero_le _, .inl ⟨rfl, rfl⟩⟩)
  clear c1
  go_wp2
  go_loopg [4] (1) (fun kq v4 wr => ∃ (n1 : Int) (xs : List α) (l2 : List Int) (s2 : Bool), v4 = .int .i64 n1 ∧ Aside0 (Hd W0 g p I l s kq n1 xs l2 s2 wr))
  case atStart => exact ⟨n, [], l1, true, rfl, HD⟩
  case round =>
   clear HD
   obtain ⟨n1, xs, l2, s2, rfl, HD⟩ := hrel
   cases gk with
   | zero => exact absurd HD.out.left (by intro h; rcases h with h | h <;> omega)
   | succ k1 =>
    have hc2 := HD.out.rd.flag_cell
    by_cases hn : 0 < n1
    ·have hd : decide (0 < n1) = true := decide_eq_true hn
     cases s2 with
     | true =>
      have HT := Aside0.mk (HD.out.cont [] l2 true (Step.bad _ _ _ _))
      rw [List.append_nil] at HT
      go_wp2
      first | go_end0 | ((try simp only [Exit.inBlock, Exit.then]); refine bodyPost_ret (results_none rfl _ _ _) rfl ?_)
      exact ⟨xs, l2, true, rfl, HD.out.inv, HD.out.rd, HT.out, HD.out.few⟩
     | false =>
      have hl : 0 ≤ n1 ∧ n1 ≤ 65536 ∧ k1 + 1 = n1.toNat + 1 ∧ xs.length + n1.toNat ≤ 65536 := HD.out.left.resolve_left (fun h => by cases h.1)
      have hb1 : n1 ≤ 65536 := hl.2.1
      have HL := Aside0.mk hl
      clear hl
      have HC1 := Aside0.mk (H1.out _ _ _ _ HD.out.inv HD.out.rd (show xs.length < 65536 by have := HL.out; omega))
      go_wp2_with (refine goesV_ (some 28) rfl rfl HF.out HN.out HB.out cap cap rfl rfl (by simp) ?_; (with_reducible refine HC1.out.mono ?_); rintro e w2 ⟨x, l3, s3, rfl, hI, hR, hS⟩; refine ⟨_, rfl, ?_⟩; have HI2 := Aside0.mk hI; have HR2 := Aside0.mk hR; have HS2 := Aside0.mk hS; clear hI hR hS)
      have HQ := Aside0.mk (fun ys l4 s4 (k : Step (Pr.rep p (n1 - 1).toNat) l3 s3 ys l4 s4) => rep_cont (n := (n1 - 1).toNat) HS2.out (by rw [show (n1 - 1).toNat + 1 = n1.toNat by have := HL.out; omega]; exact HD.out.cont) k)
      go_roundg k1
      case measure => omega
      case rel => exact ⟨n1 - 1, xs ++ [x], l3, s3, rfl, ⟨⟨HR2.out, HI2.out, HQ.out, by have := HL.out; rw [List.length_append, List.length_singleton]; omega, .inr ⟨by omega, by omega, by have := HL.out; omega, by have := HL.out; rw [List.length_append, List.length_singleton]; omega⟩⟩⟩⟩
    ·have hd : decide (0 < n1) = false := decide_eq_false hn
     have HT := Aside0.mk (HD.out.cont [] l2 s2)
     rw [List.append_nil, show n1.toNat = 0 by omega] at HT
     go_wp2
     first | go_end0 | ((try simp only [Exit.inBlock, Exit.then]); refine bodyPost_ret (results_none rfl _ _ _) rfl ?_)
     exact ⟨xs, l2, s2, rfl, HD.out.inv, HD.out.rd, HT.out (Step.pure _ _ _), HD.out.few⟩
 ·have d1 : decide (n < 0) = false := decide_eq_false c1
  by_cases c2 : 65536 < n
  ·have d2 : decide (65536 < n) = true := decide_eq_true c2
   have HD := Aside0.mk (show Hd W0 g p I l s 1 n [] l1 true (w1.setCell ⟨g, 1, none⟩ (.bool true)) from ⟨HR1.out.setFlag true, HKP.out _ _ _ HI1.out keep_set, fun ys l2 s2 k => by rw [k.1 rfl]; exact pl_bad HS.out (.inr c2), Nat.zero_le _, .inl ⟨rfl, rfl⟩⟩)
   clear c1 c2
   go_wp2
   go_loopg [4] (1) (fun kq v4 wr => ∃ (n1 : Int) (xs : List α) (l2 : List Int) (s2 : Bool), v4 = .int .i64 n1 ∧ Aside0 (Hd W0 g p I l s kq n1 xs l2 s2 wr))
   case atStart => exact ⟨n, [], l1, true, rfl, HD⟩
   case round =>
    clear HD
    obtain ⟨n1, xs, l2, s2, rfl, HD⟩ := hrel
    cases gk with
    | zero => exact absurd HD.out.left (by intro h; rcases h with h | h <;> omega)
    | succ k1 =>
     have hc2 := HD.out.rd.flag_cell
     by_cases hn : 0 < n1
     ·have hd : decide (0 < n1) = true := decide_eq_true hn
      cases s2 with
      | true =>
       have HT := Aside0.mk (HD.out.cont [] l2 true (Step.bad _ _ _ _))
       rw [List.append_nil] at HT
       go_wp2
       first | go_end0 | ((try simp only [Exit.inBlock, Exit.then]); refine bodyPost_ret (results_none rfl _ _ _) rfl ?_)
       exact ⟨xs, l2, true, rfl, HD.out.inv, HD.out.rd, HT.out, HD.out.few⟩
      | false =>
       have hl : 0 ≤ n1 ∧ n1 ≤ 65536 ∧ k1 + 1 = n1.toNat + 1 ∧ xs.length + n1.toNat ≤ 65536 := HD.out.left.resolve_left (fun h => by cases h.1)
       have hb1 : n1 ≤ 65536 := hl.2.1
       have HL := Aside0.mk hl
       clear hl
       have HC1 := Aside0.mk (H1.out _ _ _ _ HD.out.inv HD.out.rd (show xs.length < 65536 by have := HL.out; omega))
       go_wp2_with (refine goesV_ (some 28) rfl rfl HF.out HN.out HB.out cap cap rfl rfl (by simp) ?_; (with_reducible refine HC1.out.mono ?_); rintro e w2 ⟨x, l3, s3, rfl, hI, hR, hS⟩; refine ⟨_, rfl, ?_⟩; have HI2 := Aside0.mk hI; have HR2 := Aside0.mk hR; have HS2 := Aside0.mk hS; clear hI hR hS)
       have HQ := Aside0.mk (fun ys l4 s4 (k : Step (Pr.rep p (n1 - 1).toNat) l3 s3 ys l4 s4) => rep_cont (n := (n1 - 1).toNat) HS2.out (by rw [show (n1 - 1).toNat + 1 = n1.toNat by have := HL.out; omega]; exact HD.out.cont) k)
       go_roundg k1
       case measure => omega
       case rel => exact ⟨n1 - 1, xs ++ [x], l3, s3, rfl, ⟨⟨HR2.out, HI2.out, HQ.out, by have := HL.out; rw [List.length_append, List.length_singleton]; omega, .inr ⟨by omega, by omega, by have := HL.out; omega, by have := HL.out; rw [List.length_append, List.length_singleton]; omega⟩⟩⟩⟩
     ·have hd : decide (0 < n1) = false := decide_eq_false hn
      have HT := Aside0.mk (HD.out.cont [] l2 s2)
      rw [List.append_nil, show n1.toNat = 0 by omega] at HT
      go_wp2
      first | go_end0 | ((try simp only [Exit.inBlock, Exit.then]); refine bodyPost_ret (results_none rfl _ _ _) rfl ?_)
      exact ⟨xs, l2, s2, rfl, HD.out.inv, HD.out.rd, HT.out (Step.pure _ _ _), HD.out.few⟩
  ·have d2 : decide (65536 < n) = false := decide_eq_false c2
   have HD := Aside0.mk (show Hd W0 g p I l s (n.toNat + 1) n [] l1 s1 w1 from ⟨HR1.out, HI1.out, fun ys l2 s2 k => pl_start HS.out c1 (by omega) k, Nat.zero_le _, .inr ⟨by omega, by omega, rfl, by simp only [List.length_nil]; omega⟩⟩)
   clear c1 c2
   go_wp2
   go_loopg [4] (n.toNat + 1) (fun kq v4 wr => ∃ (n1 : Int) (xs : List α) (l2 : List Int) (s2 : Bool), v4 = .int .i64 n1 ∧ Aside0 (Hd W0 g p I l s kq n1 xs l2 s2 wr))
   case atStart => exact ⟨n, [], l1, s1, rfl, HD⟩
   case round =>
    clear HD
    obtain ⟨n1, xs, l2, s2, rfl, HD⟩ := hrel
    cases gk with
    | zero => exact absurd HD.out.left (by intro h; rcases h with h | h <;> omega)
    | succ k1 =>
     have hc2 := HD.out.rd.flag_cell
     by_cases hn : 0 < n1
     ·have hd : decide (0 < n1) = true := decide_eq_true hn
      cases s2 with
      | true =>
       have HT := Aside0.mk (HD.out.cont [] l2 true (Step.bad _ _ _ _))
       rw [List.append_nil] at HT
       go_wp2
       first | go_end0 | ((try simp only [Exit.inBlock, Exit.then]); refine bodyPost_ret (results_none rfl _ _ _) rfl ?_)
       exact ⟨xs, l2, true, rfl, HD.out.inv, HD.out.rd, HT.out, HD.out.few⟩
      | false =>
       have hl : 0 ≤ n1 ∧ n1 ≤ 65536 ∧ k1 + 1 = n1.toNat + 1 ∧ xs.length + n1.toNat ≤ 65536 := HD.out.left.resolve_left (fun h => by cases h.1)
       have hb1 : n1 ≤ 65536 := hl.2.1
       have HL := Aside0.mk hl
       clear hl
       have HC1 := Aside0.mk (H1.out _ _ _ _ HD.out.inv HD.out.rd (show xs.length < 65536 by have := HL.out; omega))
       go_wp2_with (refine goesV_ (some 28) rfl rfl HF.out HN.out HB.out cap cap rfl rfl (by simp) ?_; (with_reducible refine HC1.out.mono ?_); rintro e w2 ⟨x, l3, s3, rfl, hI, hR, hS⟩; refine ⟨_, rfl, ?_⟩; have HI2 := Aside0.mk hI; have HR2 := Aside0.mk hR; have HS2 := Aside0.mk hS; clear hI hR hS)
       have HQ := Aside0.mk (fun ys l4 s4 (k : Step (Pr.rep p (n1 - 1).toNat) l3 s3 ys l4 s4) => rep_cont (n := (n1 - 1).toNat) HS2.out (by rw [show (n1 - 1).toNat + 1 = n1.toNat by have := HL.out; omega]; exact HD.out.cont) k)
       go_roundg k1
       case measure => omega
       case rel => exact ⟨n1 - 1, xs ++ [x], l3, s3, rfl, ⟨⟨HR2.out, HI2.out, HQ.out, by have := HL.out; rw [List.length_append, List.length_singleton]; omega, .inr ⟨by omega, by omega, by have := HL.out; omega, by have := HL.out; rw [List.length_append, List.length_singleton]; omega⟩⟩⟩⟩
     ·have hd : decide (0 < n1) = false := decide_eq_false hn
      have HT := Aside0.mk (HD.out.cont [] l2 s2)
      rw [List.append_nil, show n1.toNat = 0 by omega] at HT
      go_wp2
      first | go_end0 | ((try simp only [Exit.inBlock, Exit.then]); refine bodyPost_ret (results_none rfl _ _ _) rfl ?_)
      exact ⟨xs, l2, s2, rfl, HD.out.inv, HD.out.rd, HT.out (Step.pure _ _ _), HD.out.few⟩
end Go.Proofs.Ytjfgapaohldbkaa.WireRd


/- When two commands, parts, and what they are made of are told the same by the printed comparisons: when they are equal. Each under the bounds that it states. -/
import Derived.Test.YtjfgapaohldbkaaZQAx7
import Derived.Test.YtjfgapaohldbkaaZQAx19
import Derived.Test.YtjfgapaohldbkaaZWireCl
namespace Go.Proofs.Ytjfgapaohldbkaa.WireEq
set_option linter.unusedSimpArgs false
set_option linter.unusedVariables false
open Go.RowKit Go.Proofs.Ytjfgapaohldbkaa.QA Go.Proofs.YtjfgapaohldbkaaW.PrintWords Go.Proofs.YtjfgapaohldbkaaW.PrintLast Go.Proofs.YtjfgapaohldbkaaW.PrintMore Go.Proofs.Ytjfgapaohldbkaa.Facts Go.Proofs.Ytjfgapaohldbkaa.Codec Go.Proofs.Ytjfgapaohldbkaa.WireC
open Classical in
noncomputable def eqb {α : Type} (a b : α) : Bool := decide (a = b)
theorem eqb_true {α : Type} {a b : α} : eqb a b = true ↔ a = b := by simp [eqb]
theorem eqb_false {α : Type} {a b : α} : eqb a b = false ↔ ¬ a = b := by simp [eqb]
theorem eqb_self {α : Type} (a : α) : eqb a a = true := eqb_true.2 rfl
theorem eqb_cons {α : Type} (a b : α) (s t : List α) : eqb (a :: s) (b :: t) = (eqb a b && eqb s t) := by
 rw [Bool.eq_iff_iff, Bool.and_eq_true, eqb_true, eqb_true, eqb_true, List.cons.injEq]
theorem str_ext {a b : ByteArray} (h : a.toList = b.toList) : a = b := by
 rw [Lib.toList_data, Lib.toList_data] at h
 cases a with | mk a => cases b with | mk b =>
 simp only at h
 rw [Array.toList_inj.1 h]
theorem str_eq {a b : ByteArray} : (a.toList == b.toList) = true ↔ a = b := by
 rw [beq_iff_eq]
 exact ⟨str_ext, fun h => by rw [h]⟩
theorem ne65 (x y : S65) : (!((x.f0).toList == (y.f0).toList) || (!((x.f1).toList == (y.f1).toList))) = true ↔ ¬ x = y := by
 constructor
 ·rintro h rfl
  simp at h
 ·intro h
  refine Classical.byContradiction fun hn => h ?_
  rw [Bool.not_eq_true] at hn
  obtain ⟨a0, a1⟩ := x
  obtain ⟨b0, b1⟩ := y
  simp only [Bool.or_eq_false_iff, Bool.not_eq_false', beq_iff_eq] at hn
  simp only [S65.mk.injEq, S23.mk.injEq, S25.mk.injEq]
  repeat' (first | exact str_ext (by simp_all) | (refine And.intro ?_ ?_) | simp_all)
theorem api_Span_loop (x0 x1 : List S65) (hl : x1.length = x0.length) (hs : x0.length ≤ 9223372036854775807) (d : Nat) : ∀ (k i : Nat), i + d = x0.length → d < k → api_Span.l0 k x0 x1 (x0.length : Int) (i : Int) = some (eqb (x0.drop i) (x1.drop i)) := by
 induction d with
 | zero =>
  intro k i hi hk
  obtain ⟨k, rfl⟩ : ∃ m, k = m + 1 := ⟨k - 1, by omega⟩
  simp only [api_Span.l0]
  rw [if_neg (by omega), List.drop_of_length_le (by omega), List.drop_of_length_le (by omega), eqb_self]
 | succ d ih =>
  intro k i hi hk
  obtain ⟨k, rfl⟩ : ∃ m, k = m + 1 := ⟨k - 1, by omega⟩
  have h0 : i < x0.length := by omega
  have h1 : i < x1.length := by omega
  have e0 : rd_T65 x0 (i : Int) = x0[i] := by unfold rd_T65; rw [Int.toNat_natCast, List.getD_eq_getElem?_getD, List.getElem?_eq_getElem h0]; rfl
  have e1 : rd_T65 x1 (i : Int) = x1[i] := by unfold rd_T65; rw [Int.toNat_natCast, List.getD_eq_getElem?_getD, List.getElem?_eq_getElem h1]; rfl
  simp only [api_Span.l0]
  rw [if_pos (by omega), if_pos (by omega), if_pos (by omega), if_pos (by omega), e0, e1, List.drop_eq_getElem_cons h0, List.drop_eq_getElem_cons h1, eqb_cons]
  by_cases c : x0[i] = x1[i]
  ·rw [if_neg (fun h => (ne65 _ _).1 h c), c, eqb_self, Bool.true_and, w64_id (by omega) (by omega)]
   exact ih k (i + 1) (by omega) (by omega)
  ·rw [if_pos ((ne65 _ _).2 c), eqb_false.2 c, Bool.false_and]
theorem api_Span_eq (l0 l1 : List S65) (hs : l0.length ≤ 9223372036854775807) : api_Span.f (l0.length + 1) l0 l1 = some (eqb l0 l1) := by
 unfold api_Span.f
 by_cases c : l0.length = l1.length
 ·rw [if_pos (by omega)]
  have h := api_Span_loop l0 l1 c.symm hs l0.length (l0.length + 1) 0 (by omega) (by omega)
  rw [List.drop_zero, List.drop_zero] at h
  exact h
 ·rw [if_neg (by omega), eqb_false.2 (fun h => c (by rw [h]))]
theorem ne67 (x y : S67) : (!((x.f0).toList == (y.f0).toList) || (!((x.f1) == (y.f1)) || (!((x.f2).toList == (y.f2).toList)))) = true ↔ ¬ x = y := by
 constructor
 ·rintro h rfl
  simp at h
 ·intro h
  refine Classical.byContradiction fun hn => h ?_
  rw [Bool.not_eq_true] at hn
  obtain ⟨a0, a1, a2⟩ := x
  obtain ⟨b0, b1, b2⟩ := y
  simp only [Bool.or_eq_false_iff, Bool.not_eq_false', beq_iff_eq] at hn
  simp only [S67.mk.injEq, S23.mk.injEq, S25.mk.injEq]
  repeat' (first | exact str_ext (by simp_all) | (refine And.intro ?_ ?_) | simp_all)
theorem api_Write_loop (x0 x1 : List S67) (hl : x1.length = x0.length) (hs : x0.length ≤ 9223372036854775807) (d : Nat) : ∀ (k i : Nat), i + d = x0.length → d < k → api_Write.l0 k x0 x1 (x0.length : Int) (i : Int) = some (eqb (x0.drop i) (x1.drop i)) := by
 induction d with
 | zero =>
  intro k i hi hk
  obtain ⟨k, rfl⟩ : ∃ m, k = m + 1 := ⟨k - 1, by omega⟩
  simp only [api_Write.l0]
  rw [if_neg (by omega), List.drop_of_length_le (by omega), List.drop_of_length_le (by omega), eqb_self]
 | succ d ih =>
  intro k i hi hk
  obtain ⟨k, rfl⟩ : ∃ m, k = m + 1 := ⟨k - 1, by omega⟩
  have h0 : i < x0.length := by omega
  have h1 : i < x1.length := by omega
  have e0 : rd_T67 x0 (i : Int) = x0[i] := by unfold rd_T67; rw [Int.toNat_natCast, List.getD_eq_getElem?_getD, List.getElem?_eq_getElem h0]; rfl
  have e1 : rd_T67 x1 (i : Int) = x1[i] := by unfold rd_T67; rw [Int.toNat_natCast, List.getD_eq_getElem?_getD, List.getElem?_eq_getElem h1]; rfl
  simp only [api_Write.l0]
  rw [if_pos (by omega), if_pos (by omega), if_pos (by omega), if_pos (by omega), e0, e1, List.drop_eq_getElem_cons h0, List.drop_eq_getElem_cons h1, eqb_cons]
  by_cases c : x0[i] = x1[i]
  ·rw [if_neg (fun h => (ne67 _ _).1 h c), c, eqb_self, Bool.true_and, w64_id (by omega) (by omega)]
   exact ih k (i + 1) (by omega) (by omega)
  ·rw [if_pos ((ne67 _ _).2 c), eqb_false.2 c, Bool.false_and]
theorem api_Write_eq (l0 l1 : List S67) (hs : l0.length ≤ 9223372036854775807) : api_Write.f (l0.length + 1) l0 l1 = some (eqb l0 l1) := by
 unfold api_Write.f
 by_cases c : l0.length = l1.length
 ·rw [if_pos (by omega)]
  have h := api_Write_loop l0 l1 c.symm hs l0.length (l0.length + 1) 0 (by omega) (by omega)
  rw [List.drop_zero, List.drop_zero] at h
  exact h
 ·rw [if_neg (by omega), eqb_false.2 (fun h => c (by rw [h]))]
theorem ne78 (x y : S78) : ((!((x.f0.f0) == (y.f0.f0)) || (!((x.f0.f1) == (y.f0.f1)))) || (!((x.f1) == (y.f1)) || (!((x.f2).toList == (y.f2).toList)))) = true ↔ ¬ x = y := by
 constructor
 ·rintro h rfl
  simp at h
 ·intro h
  refine Classical.byContradiction fun hn => h ?_
  rw [Bool.not_eq_true] at hn
  obtain ⟨⟨a0, a1⟩, a2, a3⟩ := x
  obtain ⟨⟨b0, b1⟩, b2, b3⟩ := y
  simp only [Bool.or_eq_false_iff, Bool.not_eq_false', beq_iff_eq] at hn
  simp only [S78.mk.injEq, S23.mk.injEq, S25.mk.injEq]
  repeat' (first | exact str_ext (by simp_all) | (refine And.intro ?_ ?_) | simp_all)
theorem api_Version_loop (x0 x1 : List S78) (hl : x1.length = x0.length) (hs : x0.length ≤ 9223372036854775807) (d : Nat) : ∀ (k i : Nat), i + d = x0.length → d < k → api_Version.l0 k x0 x1 (x0.length : Int) (i : Int) = some (eqb (x0.drop i) (x1.drop i)) := by
 induction d with
 | zero =>
  intro k i hi hk
  obtain ⟨k, rfl⟩ : ∃ m, k = m + 1 := ⟨k - 1, by omega⟩
  simp only [api_Version.l0]
  rw [if_neg (by omega), List.drop_of_length_le (by omega), List.drop_of_length_le (by omega), eqb_self]
 | succ d ih =>
  intro k i hi hk
  obtain ⟨k, rfl⟩ : ∃ m, k = m + 1 := ⟨k - 1, by omega⟩
  have h0 : i < x0.length := by omega
  have h1 : i < x1.length := by omega
  have e0 : rd_T78 x0 (i : Int) = x0[i] := by unfold rd_T78; rw [Int.toNat_natCast, List.getD_eq_getElem?_getD, List.getElem?_eq_getElem h0]; rfl
  have e1 : rd_T78 x1 (i : Int) = x1[i] := by unfold rd_T78; rw [Int.toNat_natCast, List.getD_eq_getElem?_getD, List.getElem?_eq_getElem h1]; rfl
  simp only [api_Version.l0]
  rw [if_pos (by omega), if_pos (by omega), if_pos (by omega), if_pos (by omega), e0, e1, List.drop_eq_getElem_cons h0, List.drop_eq_getElem_cons h1, eqb_cons]
  by_cases c : x0[i] = x1[i]
  ·rw [if_neg (fun h => (ne78 _ _).1 h c), c, eqb_self, Bool.true_and, w64_id (by omega) (by omega)]
   exact ih k (i + 1) (by omega) (by omega)
  ·rw [if_pos ((ne78 _ _).2 c), eqb_false.2 c, Bool.false_and]
theorem api_Version_eq (l0 l1 : List S78) (hs : l0.length ≤ 9223372036854775807) : api_Version.f (l0.length + 1) l0 l1 = some (eqb l0 l1) := by
 unfold api_Version.f
 by_cases c : l0.length = l1.length
 ·rw [if_pos (by omega)]
  have h := api_Version_loop l0 l1 c.symm hs l0.length (l0.length + 1) 0 (by omega) (by omega)
  rw [List.drop_zero, List.drop_zero] at h
  exact h
 ·rw [if_neg (by omega), eqb_false.2 (fun h => c (by rw [h]))]
theorem ne83 (x y : S83) : ((!((x.f0.f0) == (y.f0.f0)) || (!((x.f0.f1) == (y.f0.f1)) || (!((x.f0.f2) == (y.f0.f2)) || (!((x.f0.f3) == (y.f0.f3)))))) || ((!((x.f1.f0) == (y.f1.f0)) || (!((x.f1.f1) == (y.f1.f1)))) || (!((x.f2) == (y.f2))))) = true ↔ ¬ x = y := by
 constructor
 ·rintro h rfl
  simp at h
 ·intro h
  refine Classical.byContradiction fun hn => h ?_
  rw [Bool.not_eq_true] at hn
  obtain ⟨⟨a0, a1, a2, a3⟩, ⟨a4, a5⟩, a6⟩ := x
  obtain ⟨⟨b0, b1, b2, b3⟩, ⟨b4, b5⟩, b6⟩ := y
  simp only [Bool.or_eq_false_iff, Bool.not_eq_false', beq_iff_eq] at hn
  simp only [S83.mk.injEq, S23.mk.injEq, S25.mk.injEq]
  repeat' (first | exact str_ext (by simp_all) | (refine And.intro ?_ ?_) | simp_all)
theorem api_Outcome_loop (x0 x1 : List S83) (hl : x1.length = x0.length) (hs : x0.length ≤ 9223372036854775807) (d : Nat) : ∀ (k i : Nat), i + d = x0.length → d < k → api_Outcome.l0 k x0 x1 (x0.length : Int) (i : Int) = some (eqb (x0.drop i) (x1.drop i)) := by
 induction d with
 | zero =>
  intro k i hi hk
  obtain ⟨k, rfl⟩ : ∃ m, k = m + 1 := ⟨k - 1, by omega⟩
  simp only [api_Outcome.l0]
  rw [if_neg (by omega), List.drop_of_length_le (by omega), List.drop_of_length_le (by omega), eqb_self]
 | succ d ih =>
  intro k i hi hk
  obtain ⟨k, rfl⟩ : ∃ m, k = m + 1 := ⟨k - 1, by omega⟩
  have h0 : i < x0.length := by omega
  have h1 : i < x1.length := by omega
  have e0 : rd_T83 x0 (i : Int) = x0[i] := by unfold rd_T83; rw [Int.toNat_natCast, List.getD_eq_getElem?_getD, List.getElem?_eq_getElem h0]; rfl
  have e1 : rd_T83 x1 (i : Int) = x1[i] := by unfold rd_T83; rw [Int.toNat_natCast, List.getD_eq_getElem?_getD, List.getElem?_eq_getElem h1]; rfl
  simp only [api_Outcome.l0]
  rw [if_pos (by omega), if_pos (by omega), if_pos (by omega), if_pos (by omega), e0, e1, List.drop_eq_getElem_cons h0, List.drop_eq_getElem_cons h1, eqb_cons]
  by_cases c : x0[i] = x1[i]
  ·rw [if_neg (fun h => (ne83 _ _).1 h c), c, eqb_self, Bool.true_and, w64_id (by omega) (by omega)]
   exact ih k (i + 1) (by omega) (by omega)
  ·rw [if_pos ((ne83 _ _).2 c), eqb_false.2 c, Bool.false_and]
theorem api_Outcome_eq (l0 l1 : List S83) (hs : l0.length ≤ 9223372036854775807) : api_Outcome.f (l0.length + 1) l0 l1 = some (eqb l0 l1) := by
 unfold api_Outcome.f
 by_cases c : l0.length = l1.length
 ·rw [if_pos (by omega)]
  have h := api_Outcome_loop l0 l1 c.symm hs l0.length (l0.length + 1) 0 (by omega) (by omega)
  rw [List.drop_zero, List.drop_zero] at h
  exact h
 ·rw [if_neg (by omega), eqb_false.2 (fun h => c (by rw [h]))]
end Go.Proofs.Ytjfgapaohldbkaa.WireEq


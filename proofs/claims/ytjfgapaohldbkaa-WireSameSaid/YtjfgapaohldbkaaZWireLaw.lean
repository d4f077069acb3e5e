/- The codec of wire: what was written is read back, whatever stands behind it; what is read was written so. Without any program; each fact under the bounds that it states. -/
import Derived.Test.YtjfgapaohldbkaaZWireC
namespace Go.Proofs.Ytjfgapaohldbkaa.WireLaw
set_option linter.unusedSimpArgs false
set_option linter.unusedVariables false
open Go.RowKit Go.Proofs.Ytjfgapaohldbkaa.QA Go.Proofs.YtjfgapaohldbkaaW.PrintWords Go.Proofs.Ytjfgapaohldbkaa.Facts Go.Proofs.Ytjfgapaohldbkaa.Codec Go.Proofs.Ytjfgapaohldbkaa.Lex Go.Proofs.Ytjfgapaohldbkaa.WireC
def RT {α : Type} (p : Pr α) (e : α → List Int) (g : α → Prop) : Prop := ∀ x t, g x → p (e x ++ t) = some (x, t)
theorem bind_some {α β : Type} {p : Pr α} {q : α → Pr β} {l t : List Int} {v : α} (h : p l = some (v, t)) : Pr.bind p q l = q v t := by
 unfold Pr.bind
 rw [h]
def gT (s : ByteArray) : Prop := s.size ≤ 1048576
theorem bytesOf_bytes (s : ByteArray) : Bytes (bytesOf s) := fun c hc => by
 unfold bytesOf at hc
 obtain ⟨b, _, rfl⟩ := List.mem_map.1 hc
 have := b.toNat_lt
 omega
theorem strOf_bytesOf (s : ByteArray) : strOfNums (bytesOf s) = s := by
 have h : (strOfNums (bytesOf s)).toList = s.toList := by
  rw [str_toList, Lib.toList_data]
  unfold strL bytesOf
  rw [List.map_map]
  conv => rhs; rw [← List.map_id s.data.toList]
  exact List.map_congr_left (fun b _ => by simp)
 rw [Lib.toList_data, Lib.toList_data] at h
 generalize strOfNums (bytesOf s) = u at *
 cases u with | mk u => cases s with | mk s =>
 simp only at h
 rw [Array.toList_inj.1 h]
theorem rtN : RT pN eN In64 := fun a t h => by
 have hz := zig_u64 h
 unfold pN eN
 rw [tv_V hz t]
 simp only [if_true]
 rw [zag_zig, Int.toNat_natCast, List.drop_left]
theorem rtT : RT pT eT gT := fun s t h => by
 unfold gT at h
 unfold pT eT
 rw [tt_T (bytesOf s) t (by rw [bytesOf_length]; exact h)]
 simp only [if_true]
 rw [strOf_bytesOf, Int.toNat_natCast, List.drop_left]
def gF (_ : Bool) : Prop := True
theorem rtF : RT pF eF gF := fun b t _ => by
 cases b
 ·rfl
 ·rfl
theorem ord_u64 {a : Int} (h : In64 a) : U64 (ord a) := ⟨by have := h.1; unfold ord; omega, by have := h.2; unfold ord; omega⟩
theorem gv_ord {a : Int} (h : In64 a) : gv (be 8 (ord a)) - 9223372036854775808 = a := by
 have hu := ord_u64 h
 rw [gv_be 8 _ hu.1, show (256 : Int) ^ 8 = 18446744073709551616 by decide, Int.emod_eq_of_lt hu.1 hu.2]
 unfold ord
 omega
def gS (x : S25) : Prop := In64 x.f0 ∧ In64 x.f1
theorem rtS : RT pS eS gS := fun x t h => by
 have h8 := be_len 8 (ord x.f0)
 have h9 := be_len 8 (ord x.f1)
 have e1 : (eS x ++ t).take 8 = be 8 (ord x.f0) := by unfold eS; rw [List.append_assoc, List.take_append_of_le_length (by omega), List.take_of_length_le (by omega)]
 have e2 : ((eS x ++ t).take 16).drop 8 = be 8 (ord x.f1) := by
  unfold eS
  rw [List.take_append_of_le_length (by rw [List.length_append]; omega), List.take_of_length_le (by rw [List.length_append]; omega), List.drop_append_of_le_length (by omega), List.drop_of_length_le (by omega), List.nil_append]
 have e3 : (eS x ++ t).drop 16 = t := by
  have : (eS x).length = 16 := by unfold eS; rw [List.length_append]; omega
  rw [← this, List.drop_left]
 unfold pS
 rw [if_neg (by unfold eS; rw [List.length_append, List.length_append]; omega), e1, e2, e3, gv_ord h.1, gv_ord h.2]
def gY (x : S23) : Prop := In64 x.f0 ∧ In64 x.f1 ∧ In64 x.f2 ∧ In64 x.f3
theorem rtY : RT pY eY gY := fun x t h => by
 unfold pY eY
 simp only [List.append_assoc]
 rw [bind_some (rtN _ _ h.1), bind_some (rtN _ _ h.2.1), bind_some (rtN _ _ h.2.2.1), bind_some (rtN _ _ h.2.2.2)]
 rfl
theorem rt_rep {α : Type} {p : Pr α} {e : α → List Int} {g : α → Prop} (h : RT p e g) : ∀ (xs : List α) (t : List Int), (∀ x ∈ xs, g x) → Pr.rep p xs.length (xs.flatMap e ++ t) = some (xs, t)
 | [], _, _ => rfl
 | x :: xs, t, hg => by
  simp only [List.length_cons, Pr.rep, List.flatMap_cons, List.append_assoc]
  rw [bind_some (h x _ (hg x (by simp))), bind_some (rt_rep h xs t (fun y hy => hg y (by simp [hy])))]
  rfl
def gL {α : Type} (g : α → Prop) (xs : List α) : Prop := xs.length ≤ 65536 ∧ ∀ x ∈ xs, g x
theorem rtL {α : Type} {p : Pr α} {e : α → List Int} {g : α → Prop} (h : RT p e g) : RT (pL p) (eL e) (gL g) := fun xs t hg => by
 have hl := hg.1
 unfold pL eL
 rw [List.append_assoc, bind_some (rtN _ _ ⟨by omega, by omega⟩), if_neg (by omega), Int.toNat_natCast]
 exact rt_rep h xs t hg.2
def gSpan (x : S65) : Prop := gT x.f0 ∧ gT x.f1
theorem rtSpan : RT pSpan eSpan gSpan := fun x t h => by
 unfold pSpan eSpan
 simp only [List.append_assoc]
 rw [bind_some (rtT _ _ h.1), bind_some (rtT _ _ h.2)]
 rfl
def gWrite (x : S67) : Prop := gT x.f0 ∧ gF x.f1 ∧ gT x.f2
theorem rtWrite : RT pWrite eWrite gWrite := fun x t h => by
 unfold pWrite eWrite
 simp only [List.append_assoc]
 rw [bind_some (rtT _ _ h.1), bind_some (rtF _ _ h.2.1), bind_some (rtT _ _ h.2.2)]
 rfl
def gCmd (c : CmdV) : Prop := In64 c.kind ∧ In64 c.epoch ∧ In64 c.node ∧ In64 c.home ∧ gY c.by_ ∧ gS c.at_ ∧ In64 c.wall ∧ gL gSpan c.spans ∧ gL gWrite c.writes
theorem rtCmd {c : CmdV} (h : gCmd c) (t : List Int) : pCmd (eCmd c ++ t) = some ((1, c), t) := by
 obtain ⟨h1, h2, h3, h4, h5, h6, h7, h8, h9⟩ := h
 unfold pCmd eCmd
 simp only [List.append_assoc]
 have e0 : pB ([1] ++ (eN c.kind ++ (eN c.epoch ++ (eN c.node ++ (eN c.home ++ (eY c.by_ ++ (eS c.at_ ++ (eN c.wall ++ (eF c.yes ++ (eL eSpan c.spans ++ (eL eWrite c.writes ++ t))))))))))) = some (1, eN c.kind ++ (eN c.epoch ++ (eN c.node ++ (eN c.home ++ (eY c.by_ ++ (eS c.at_ ++ (eN c.wall ++ (eF c.yes ++ (eL eSpan c.spans ++ (eL eWrite c.writes ++ t)))))))))) := rfl
 have e1 : pCmd0 (eN c.kind ++ (eN c.epoch ++ (eN c.node ++ (eN c.home ++ (eY c.by_ ++ (eS c.at_ ++ (eN c.wall ++ (eF c.yes ++ (eL eSpan c.spans ++ (eL eWrite c.writes ++ t)))))))))) = some (⟨c.kind, c.epoch, c.node, c.home, c.by_, c.at_, c.wall, c.yes, [], []⟩, eL eSpan c.spans ++ (eL eWrite c.writes ++ t)) := by
  unfold pCmd0
  rw [bind_some (rtN _ _ h1), bind_some (rtN _ _ h2), bind_some (rtN _ _ h3), bind_some (rtN _ _ h4), bind_some (rtY _ _ h5), bind_some (rtS _ _ h6), bind_some (rtN _ _ h7), bind_some (rtF _ _ trivial)]
  rfl
 rw [bind_some e0, bind_some e1, bind_some (rtL rtSpan _ _ h8), bind_some (rtL rtWrite _ _ h9)]
 rfl
theorem eCmd_inj {c d : CmdV} (hc : gCmd c) (hd : gCmd d) (h : eCmd c = eCmd d) : c = d := by
 have h1 := rtCmd hc []
 rw [h, rtCmd hd []] at h1
 injection h1 with h1
 injection h1 with h1 _
 injection h1 with _ h1
 exact h1.symm
end Go.Proofs.Ytjfgapaohldbkaa.WireLaw


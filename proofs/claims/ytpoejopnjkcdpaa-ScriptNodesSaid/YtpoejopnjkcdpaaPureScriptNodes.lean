/- The pure statement behind ScriptNodes: every event that bytes say names a node that there is, if it names one, and there are no more events than bytes. No condition beyond the statement's own. -/
import Derived.Test.YtpoejopnjkcdpaaQAx13
import Derived.Test.YtpoejopnjkcdpaaScriptSt
namespace Go.Proofs.Ytpoejopnjkcdpaa.Pure
open Go.RowKit Go.Proofs.Ytpoejopnjkcdpaa.QA Go.Proofs.YtpoejopnjkcdpaaW.PrintWords Go.Proofs.YtpoejopnjkcdpaaW.PrintLast Go.Proofs.YtpoejopnjkcdpaaW.PrintMore Go.Proofs.Ytpoejopnjkcdpaa.Facts Go.Proofs.Ytpoejopnjkcdpaa.Codec Go.Proofs.Ytpoejopnjkcdpaa.St

theorem begun_nodes : antipodelaw29_begun.f 4000 = some true := by decide +kernel
theorem nodes_loop (n : Int) (L : List S41) (x0 : List Int) (hL : ∀ e ∈ L, St.Told n e) (hlen : L.length ≤ x0.length) (hx : x0.length ≤ 1024) (d : Nat) : ∀ (k i : Nat), i + d = L.length → d < k → antipodelaw29_ScriptNodes.l0 k x0 n L (i : Int) = some true := by
  induction d with
  | zero =>
    intro k i hi hk
    obtain ⟨k, rfl⟩ : ∃ j, k = j + 1 := ⟨k - 1, by omega⟩
    rw [antipodelaw29_ScriptNodes.l0, if_neg (by omega), decide_eq_true (by omega)]
  | succ d ih =>
    intro k i hi hk
    obtain ⟨k, rfl⟩ : ∃ j, k = j + 1 := ⟨k - 1, by omega⟩
    have hlt : i < L.length := by omega
    have he : rd_T41 L (i : Int) = L[i] := by unfold rd_T41; rw [Int.toNat_natCast, List.getD_eq_getElem?_getD, List.getElem?_eq_getElem hlt]; rfl
    have ht := hL L[i] (List.getElem_mem hlt)
    have hn := ih k (i + 1) (by omega) (by omega)
    have hw : wrap64 ((i : Int) + 1) = ((i + 1 : Nat) : Int) := by rw [w64_id (by omega) (by omega)]; omega
    rw [antipodelaw29_ScriptNodes.l0, if_pos (by omega), if_pos (by omega), he, hw, hn]
    obtain ⟨ht, hle⟩ := ht
    rcases ht with ⟨h | h | h, h1⟩ | ⟨h | h | h | h | h | h | h, h1⟩
    all_goals first
      | (have h3 : ¬ (L[i].f1 > n) := by omega
         have h4 : (L[i].f1 == 0) = true := beq_iff_eq.mpr h1
         simp [h, h3, h4]; done)
      | (have h3 : ¬ (L[i].f1 > n) := by omega
         have h4 : (L[i].f1 == 0) = false := beq_eq_false_iff_ne.mpr (by omega)
         simp [h, h3, h4]; done)
theorem ScriptNodes : antipodelaw29_ScriptNodes.Pure := by
  intro l0 a1 hm hy hw hw1
  have hb := bytes_of_wf hw
  refine ⟨4000, ?_⟩
  unfold antipodelaw29_ScriptNodes.f
  rw [begun_nodes]
  simp only [Option.bind_some, if_true]
  by_cases c : (l0.length : Int) > 1024
  · rw [if_pos c]
  · rw [if_neg c, prog_decode 4000 a1 hb (by omega) (by omega)]
    simp only [Option.bind_some]
    have hr := nn_range a1
    have hl := nodes_loop (nn a1) (dec l0.length l0 (nn a1)) l0 (dec_told (nn a1) hr.1 _ l0) (dec_len _ _ _) (by omega) _ 3998 0 (Nat.zero_add _) (by have := dec_len (nn a1) l0.length l0; omega)
    by_cases c1 : a1 < 1
    · rw [if_pos c1, antipodelaw29_ScriptNodes.j0, if_pos rfl, antipodelaw29_ScriptNodes.j1]
      have e : nn a1 = 1 := by unfold nn; rw [if_pos c1]
      rw [e] at hl ⊢
      exact hl
    · rw [if_neg c1, antipodelaw29_ScriptNodes.j0]
      by_cases c2 : a1 > 9
      · rw [decide_eq_true c2, if_pos rfl, antipodelaw29_ScriptNodes.j1]
        have e : nn a1 = 1 := by unfold nn; rw [if_neg c1, if_pos c2]
        rw [e] at hl ⊢
        exact hl
      · rw [decide_eq_false c2, if_neg (by decide), antipodelaw29_ScriptNodes.j1]
        have e : nn a1 = a1 := by unfold nn; rw [if_neg c1, if_neg c2]
        rw [e] at hl ⊢
        exact hl
end Go.Proofs.Ytpoejopnjkcdpaa.Pure

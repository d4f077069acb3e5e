/- The pure statement behind ScriptBack: what bytes say is said by the bytes made of it; these are made again, and they are no more. No condition beyond the statement's own. -/
import Derived.Test.YtpoejopnjkcdpaaQAx12
import Derived.Test.YtpoejopnjkcdpaaScriptRaw
namespace Go.Proofs.Ytpoejopnjkcdpaa.Pure
open Go.RowKit Go.Proofs.Ytpoejopnjkcdpaa.QA Go.Proofs.YtpoejopnjkcdpaaW.PrintWords Go.Proofs.YtpoejopnjkcdpaaW.PrintLast Go.Proofs.YtpoejopnjkcdpaaW.PrintMore Go.Proofs.Ytpoejopnjkcdpaa.Facts Go.Proofs.Ytpoejopnjkcdpaa.Codec Go.Proofs.Ytpoejopnjkcdpaa.St

theorem begun_back : antipodelaw29_begun.f 9000 = some true := by decide +kernel
theorem ScriptBack : antipodelaw29_ScriptBack.Pure := by
  intro l0 hm hy hw
  have hb := bytes_of_wf hw
  refine ⟨9000, ?_⟩
  unfold antipodelaw29_ScriptBack.f
  refine bind_to begun_back ?_
  rw [if_pos rfl]
  by_cases c : (l0.length : Int) > 4096
  · rw [if_pos c]
  · have hL := dec_len 9 l0.length l0
    obtain ⟨B, C, h1, h2, h3, h4, h5, h6⟩ := dec_good l0.length l0 hb
    have hd := prog_decode 9000 9 hb (by omega) (by omega)
    rw [show nn 9 = 9 from rfl] at hd
    have he := encode_good _ B h2 h3 (by omega) (by rw [← h1]; omega) 9000 (by omega)
    rw [← h1] at he
    have hd2 := prog_decode 9000 9 h4 (by omega) (by omega)
    rw [show nn 9 = 9 from rfl, h6 C.length (Nat.le_refl _)] at hd2
    rw [if_neg c]
    refine bind_to hd (bind_to he (bind_to hd2 (bind_to (sameAll _ 2 9000 (dec_keep 9 l0.length l0) (by omega) (by omega) (by omega)) ?_)))
    rw [if_pos rfl]
    refine bind_to he ?_
    rw [if_pos rfl, decide_eq_true (by omega)]
end Go.Proofs.Ytpoejopnjkcdpaa.Pure

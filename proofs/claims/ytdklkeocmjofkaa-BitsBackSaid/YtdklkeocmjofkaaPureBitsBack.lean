/- The pure statement behind BitsBack: what was written is read, whatever stands behind it. No condition beyond the statement's own. -/
import Derived.Test.YtdklkeocmjofkaaQASpec
import Derived.Test.YtdklkeocmjofkaaPureBitsTurns
namespace Go.Proofs.Ytdklkeocmjofkaa.Pure
open Go.RowKit Go.Proofs.Ytdklkeocmjofkaa.QA Go.Proofs.YtdklkeocmjofkaaW.PrintWords Go.Proofs.YtdklkeocmjofkaaW.PrintLast Go.Proofs.YtdklkeocmjofkaaW.PrintMore Go.Proofs.Ytdklkeocmjofkaa.Facts Go.Proofs.Ytdklkeocmjofkaa.Codec Go.Proofs.Ytdklkeocmjofkaa.QASpec

theorem begun_back : antipodelaw1_begun.f (39 + 1) = some true := by decide +kernel
theorem zig_u64 {a : Int} (h : In64 a) : U64 (zig a) := by
  have := h.1
  have := h.2
  unfold zig U64
  split <;> omega
theorem zag_in64 {u : Int} (h : U64 u) : In64 (zag u) := by
  have := h.1
  have := h.2
  unfold zag In64
  split <;> omega
theorem zag_zig (a : Int) : zag (zig a) = a := by
  unfold zag zig
  split <;> split <;> omega
theorem zig_zag {u : Int} (h : U64 u) : zig (zag u) = u := by
  have := h.1
  unfold zag zig
  split <;> split <;> omega

theorem order_any {z : Int} (hz : In64 z) : ∃ o, bits_Order.f z = some o ∧ bits_Back.f o = some z := by
  have h1 := hz.1
  have h2 := hz.2
  refine ⟨_, order_calls hz, ?_⟩
  unfold order
  rw [back_calls ⟨by omega, by omega⟩]
  exact congrArg some (by omega)
theorem back_any {v : Int} (hv : U64 v) : ∃ u, bits_Back.f v = some u ∧ bits_Order.f u = some v := by
  have h1 := hv.1
  have h2 := hv.2
  refine ⟨_, back_calls hv, ?_⟩
  rw [order_calls ⟨by omega, by omega⟩]
  unfold order
  exact congrArg some (by omega)
theorem back_core (k : Nat) (hk : 24 ≤ k) {s rest : List Int} {v z : Int} (hv : U64 v) (hz : In64 z) (bs : Bytes s) (br : Bytes rest) (c1 : ¬ (s.length : Int) > 16384) (c2 : ¬ (rest.length : Int) > 16384) :
    antipodelaw1_BitsBack.j0 (k + 1) s rest v z false = some true := by
  have hl := V_len v
  have tl := T_len s
  simp only [antipodelaw1_BitsBack.j0]
  rw [if_neg (by decide), var_calls k (by omega) hv (by simp)]
  simp only [Option.bind_some, List.nil_append]
  rw [if_pos (by omega), takeVar_calls k (by omega) ((V_bytes hv).append br) (by rw [List.length_append]; omega), tv_V hv]
  simp only [Option.bind_some]
  rw [text_calls k (by omega) (by simp; omega)]
  simp only [Option.bind_some, List.nil_append]
  rw [if_pos (by omega), takeText_calls k (by omega) ((T_bytes bs (by omega)).append br) (by rw [List.length_append]; omega), tt_T s rest (by omega)]
  simp only [Option.bind_some, if_true]
  rw [zig_calls hz]
  simp only [Option.bind_some]
  rw [zag_calls (zig_u64 hz), zag_zig]
  simp only [Option.bind_some, if_true]
  rw [zag_calls hv]
  simp only [Option.bind_some]
  rw [zig_calls (zag_in64 hv), zig_zag hv]
  simp only [Option.bind_some, if_true]
  obtain ⟨o, ho1, ho2⟩ := order_any hz
  obtain ⟨u, hu1, hu2⟩ := back_any hv
  refine bind_to ho1 (bind_to ho2 ?_)
  rw [if_pos rfl]
  refine bind_to hu1 (bind_to hu2 ?_)
  rw [beq_self_eq_true]
theorem back_light (k : Nat) (s rest : List Int) (v z : Int) : antipodelaw1_BitsBack.j0 (k + 1) s rest v z true = some true := by simp only [antipodelaw1_BitsBack.j0, if_true]

theorem BitsBack : antipodelaw1_BitsBack.Pure := by
  intro s rest v z _ _ ws _ _ wr hv hz
  refine ⟨39 + 1, ?_⟩
  unfold antipodelaw1_BitsBack.f
  rw [begun_back]
  simp only [Option.bind_some, if_true]
  by_cases c1 : (s.length : Int) > 16384
  · rw [if_pos c1, back_light]
  rw [if_neg c1]
  by_cases c2 : (rest.length : Int) > 16384
  · rw [decide_eq_true c2, back_light]
  rw [decide_eq_false c2]
  exact back_core 39 (by omega) (u64_of_wf hv) (in64_of_wf hz) (bytes_of_wf ws) (bytes_of_wf wr) c1 c2

end Go.Proofs.Ytdklkeocmjofkaa.Pure

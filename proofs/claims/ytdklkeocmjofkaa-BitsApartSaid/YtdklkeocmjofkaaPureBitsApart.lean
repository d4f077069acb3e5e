/- BitsApart joined: for all a, b, x and y the law's call returns true, and only new memory is made. No condition beyond the statement's own. -/
import Derived.Test.YtdklkeocmjofkaaApartWalk
import Derived.Test.YtdklkeocmjofkaaQASpec
import Derived.Test.YtdklkeocmjofkaaPureBitsTurns
import Derived.Lib.Strings
namespace Go.Proofs.Ytdklkeocmjofkaa.Pure
open Go.RowKit Go.Proofs.Ytdklkeocmjofkaa.QA Go.Proofs.YtdklkeocmjofkaaW.PrintWords Go.Proofs.YtdklkeocmjofkaaW.PrintLast Go.Proofs.YtdklkeocmjofkaaW.PrintMore Go.Proofs.Ytdklkeocmjofkaa.Facts Go.Proofs.Ytdklkeocmjofkaa.Codec Go.Proofs.Ytdklkeocmjofkaa.QASpec Go.Proofs.Ytdklkeocmjofkaa.ApartWalk

theorem begun_apart : antipodelaw1_begun.f 20 = some true := by decide +kernel

theorem str_toList (l : List Int) : (strOfNums l).toList = l.map fun n => UInt8.ofNat n.toNat := by
  rw [Lib.toList_data]; rfl
theorem byte_inj {c d : Int} (hc : 0 ≤ c ∧ c < 256) (hd : 0 ≤ d ∧ d < 256) (h : UInt8.ofNat c.toNat = UInt8.ofNat d.toNat) : c = d := by
  have := congrArg UInt8.toNat h
  simp only [UInt8.toNat_ofNat'] at this
  omega
theorem map_inj (l : List Int) : ∀ m : List Int, Bytes l → Bytes m → (l.map fun n => UInt8.ofNat n.toNat) = (m.map fun n => UInt8.ofNat n.toNat) → l = m := by
  induction l with
  | nil => intro m _ _ h; cases m with
    | nil => rfl
    | cons d t => simp at h
  | cons c t ih =>
    intro m hl hm h
    cases m with
    | nil => simp at h
    | cons d u =>
      simp only [List.map_cons, List.cons.injEq] at h
      rw [byte_inj (hl c (by simp)) (hm d (by simp)) h.1, ih u (fun x hx => hl x (by simp [hx])) (fun x hx => hm x (by simp [hx])) h.2]
theorem str_cut (l : List Int) (n : Nat) : ((strOfNums l).extract 0 n).toList = (l.take n).map fun n => UInt8.ofNat n.toNat := by
  rw [Lib.toList_data, ByteArray.data_extract, Array.toList_extract]
  simp [strOfNums]

theorem apart_walk (a b x y : Int) (w : World) (wa : (Lit.int .u64 a).wf = true) (wb : (Lit.int .u64 b).wf = true) (wx : (Lit.int .i64 x).wf = true) (wy : (Lit.int .i64 y).wf = true) :
    Calls Try.prog 4 #[.int .u64 a, .int .u64 b, .int .i64 x, .int .i64 y] w fun e w' => e = .returned (.bool true) ∧ Below w.heap.size w w' := by
  have ha := u64_of_wf wa
  have hb := u64_of_wf wb
  have hx := in64_of_wf wx
  have hy := in64_of_wf wy
  have va := var_calls 20 (l := []) (by omega) ha (by simp)
  have vb := var_calls 20 (l := []) (by omega) hb (by simp)
  rw [List.nil_append] at va vb
  have c9 : (decide (x < y) == decide (order x < order y)) = true := by
    unfold order
    rw [beq_iff_eq, decide_eq_decide]
    omega
  have la := V_len a
  have lb := V_len b
  have ba := V_bytes ha
  have bb := V_bytes hb
  have sa : (strOfNums (V a)).size = (V a).length := strOfNums_size _
  have sb : (strOfNums (V b)).size = (V b).length := strOfNums_size _
  by_cases cm : ((strOfNums (V b)).size : Int) < ((strOfNums (V a)).size : Int)
  · by_cases e : a = b
    · exact apart_q0 20 a b x y _ _ _ _ w ⟨begun_apart⟩ ⟨va⟩ ⟨vb⟩ ⟨order_calls hx⟩ ⟨order_calls hy⟩ ⟨c9⟩ cm (by omega) (beq_iff_eq.2 e)
    · refine apart_q1 20 a b x y _ _ _ _ w ⟨begun_apart⟩ ⟨va⟩ ⟨vb⟩ ⟨order_calls hx⟩ ⟨order_calls hy⟩ ⟨c9⟩ cm (by omega) (beq_eq_false_iff_ne.2 e) (beq_eq_false_iff_ne.2 fun h => e ?_)
      rw [str_cut, str_toList, sb] at h
      have h2 := map_inj _ _ (fun c hc => ba c (List.mem_of_mem_take hc)) bb h
      exact V_apart (x := []) (y := (V a).drop (V b).length) ha hb (by rw [List.append_nil]; have h3 := List.take_append_drop (V b).length (V a); rw [h2] at h3; exact h3.symm)
  · by_cases e : a = b
    · exact apart_p0 20 a b x y _ _ _ _ w ⟨begun_apart⟩ ⟨va⟩ ⟨vb⟩ ⟨order_calls hx⟩ ⟨order_calls hy⟩ ⟨c9⟩ cm (by omega) (beq_iff_eq.2 e)
    · refine apart_p1 20 a b x y _ _ _ _ w ⟨begun_apart⟩ ⟨va⟩ ⟨vb⟩ ⟨order_calls hx⟩ ⟨order_calls hy⟩ ⟨c9⟩ cm (by omega) (beq_eq_false_iff_ne.2 e) (beq_eq_false_iff_ne.2 fun h => e ?_)
      rw [str_cut, str_toList, sa] at h
      have h2 := map_inj _ _ ba (fun c hc => bb c (List.mem_of_mem_take hc)) h
      exact V_apart (x := (V b).drop (V a).length) (y := []) ha hb (by rw [List.append_nil]; have h3 := List.take_append_drop (V a).length (V b); rw [← h2] at h3; exact h3)

end Go.Proofs.Ytdklkeocmjofkaa.Pure

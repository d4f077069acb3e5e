/- Small laws of this session: a whole struct is stored into, or loaded from, a block that is known whole; a function value is called. Plain theorems. -/
import Derived.Test.YtjfgapaohldbkaaZQAll
namespace Go.Proofs.Ytjfgapaohldbkaa.WireBlk
open Go.RowKit Go.Proofs.Ytjfgapaohldbkaa.QA Go.Proofs.YtjfgapaohldbkaaW.PrintWords Go.Proofs.YtjfgapaohldbkaaW.PrintLast Go.Proofs.YtjfgapaohldbkaaW.PrintMore
section
variable {P : Program} {ops : Array Oper} {rest : List Oper} {o : Oper} {a : Act} {Q : Exit → Act → World → Prop} {Kc : Act → World → Prop}
theorem grown_set (W : World) (g off : Nat) (seg : List Value) : W.grownBy (W.setCells g off seg) (some g) := by
 obtain ⟨s1, s2, s3, s4⟩ := setCells_same g seg off W
 exact ⟨s1, s2, s3, by rw [s4]; exact Nat.le_refl _, fun k _ hk => setCells_far seg _ k (fun he => hk (by rw [he]))⟩
theorem set_blk {W : World} {g off : Nat} {e : TypeId} {cur : Array Value} {seg : List Value} (hh : W.heap[g]? = some (.cells cur e (0, 0))) (hfit : off + seg.length ≤ cur.size) (new : List Value) (hnew : cur.toList.take off ++ seg ++ cur.toList.drop (off + seg.length) = new) :
  (W.setCells g off seg).heap[g]? = some (.cells new.toArray e (0, 0)) := by
 obtain ⟨cur', h1, _, h3⟩ := setCells_row seg off W cur hh hfit
 rw [h1, ← hnew, ← h3]
theorem store_blk {W : World} (hgd : o.guard = none) {t : TypeId} {p : Tmp} {x : Operand} (ho : o.op = .store t (.tmp p) x) (hN : o.dst = none) {g off : Nat} {e : TypeId} {cur : Array Value} {u : Value} {seg : List Value} (new : List Value)
  (hp : a.eval (.tmp p) = .pointer (some ⟨g, off, none⟩)) (hx : a.eval x = u) (hh : W.heap[g]? = some (.cells cur e (0, 0))) (hu : u.cells.toList = seg) (ht : (P.info? t).map (·.size) = some seg.length) (hfit : off + seg.length ≤ cur.size) (h1 : ∀ q ∈ seg, q.oneCell' = true) (hnew : cur.toList.take off ++ seg ++ cur.toList.drop (off + seg.length) = new)
  (h : ∀ w1, w1.heap[g]? = some (.cells new.toArray e (0, 0)) → W.grownBy w1 (some g) → wpList P ops Q rest a w1) : wpList P ops Q (o :: rest) a W := by
 have hr := run_store_run (P := P) t u seg hh hu ht hfit h1
 refine wpList_plain hgd fun K hK => ?_
 unfold Oper.wp execOp
 simp only [ho, hp, hx, Sem.run_bind, Sem.run_pure, Result.andThen_ok, hr]
 show K (a.put o.dst undef) _
 rw [hN]
 exact hK a _ (h _ (set_blk hh hfit new hnew) (grown_set W g off seg))
theorem store_blk_step {W : World} (hw : Region.wanted o (yielded ops a.tmps) = true) {t : TypeId} {p : Tmp} {x : Operand} (ho : o.op = .store t (.tmp p) x) (hN : o.dst = none) {g off : Nat} {e : TypeId} {cur : Array Value} {u : Value} {seg : List Value} (new : List Value)
  (hp : a.eval (.tmp p) = .pointer (some ⟨g, off, none⟩)) (hx : a.eval x = u) (hh : W.heap[g]? = some (.cells cur e (0, 0))) (hu : u.cells.toList = seg) (ht : (P.info? t).map (·.size) = some seg.length) (hfit : off + seg.length ≤ cur.size) (h1 : ∀ q ∈ seg, q.oneCell' = true) (hnew : cur.toList.take off ++ seg ++ cur.toList.drop (off + seg.length) = new)
  (h : ∀ w1, w1.heap[g]? = some (.cells new.toArray e (0, 0)) → W.grownBy w1 (some g) → Kc a w1) : if Region.wanted o (yielded ops a.tmps) = true then Oper.wp P o a W Kc Q else Kc (a.put none undef) W := by
 have hr := run_store_run (P := P) t u seg hh hu ht hfit h1
 refine skip_ (w1 := W.setCells g off seg) hw hN ?_ (h _ (set_blk hh hfit new hnew) (grown_set W g off seg))
 unfold execOp
 simp only [ho, hp, hx, Sem.run_bind, Sem.run_pure, Result.andThen_ok, hr]
theorem load_run {W : World} {t : TypeId} {g : Nat} {e : TypeId} {cs : Array Value} {d : TypeDesc} (hh : W.heap[g]? = some (.cells cs e (0, 0))) (hu : P.underlying t = some d) (hd : (match d with | .struct _ | .array _ _ => true | _ => false) = true) (hi : (P.info? t).map (·.size) = some cs.size) : (Instr.loadAt t (.pointer (some ⟨g, 0, none⟩))).run P W = .ok (.agg cs) W := by
 simp [Instr.loadAt, Instr.sureAddr, run_loadVar_row W g e t cs (0, 0) d hh hu hd hi]
theorem load_blk {W : World} (hgd : o.guard = none) {N : Tmp} (_hd : o.dst = some N) {t : TypeId} {p : Tmp} (ho : o.op = .load t (.tmp p)) {g : Nat} {e : TypeId} {cs : Array Value} {d : TypeDesc} (hp : a.eval (.tmp p) = .pointer (some ⟨g, 0, none⟩)) (hh : W.heap[g]? = some (.cells cs e (0, 0)))
  (hu : P.underlying t = some d) (hd : (match d with | .struct _ | .array _ _ => true | _ => false) = true) (hi : (P.info? t).map (·.size) = some cs.size) (h : wpList P ops Q rest (a.put o.dst (.agg cs)) W) : wpList P ops Q (o :: rest) a W := by
 refine Kd.event_run hgd ?_ h
 unfold execOp
 simp only [ho, hp, Sem.run_bind, Sem.run_pure, Result.andThen_ok, load_run hh hu hd hi]
theorem goesV_ {oi : Oper} {w : World} (N : Option Tmp) (hd : oi.dst = N) (hg : oi.guard = none) {f : FuncId} {fn : Func} {as_ : Array Operand} {ts : Array TypeId} (hf : P.funcs[f]? = some fn) (hname : (fn.name == "runtime.NumGoroutine") = false) (hb : fn.body.isSome = true) (args cap : Array Value) {c : Operand}
  (hop : oi.op = .call { callee := .value c, args := as_, argTypes := ts }) (hc : a.eval c = .func (.func f) #[] cap) (hargs : as_.map a.eval ++ cap = args)
  (h : Calls P f args w fun e w' => ∃ v, e = .returned v ∧ wpList P ops Q rest (a.put N v) w') : wpList P ops Q (oi :: rest) a w := by
 refine wpList_plain hg fun K hK => ?_
 have he := enters_ hf hname hb args w
 have hrun : (execOp a.eval oi).run P w = .ok (.enter f args) w := by
  unfold execOp
  simp [hop, resolve, Deferred.ofValue, invoke, hc, hargs, he]
 unfold Oper.wp
 rw [hrun, Oper.upon_enter]
 refine h.mono fun e w'' hh => ?_
 obtain ⟨v, rfl, hk⟩ := hh
 subst hd
 exact hK _ _ hk
end
theorem below_only {W0 W w1 : World} {B g : Nat} (h : Below B W0 W) (hg : W.grownBy w1 (some g)) (hB : B ≤ g) (hs : B ≤ W.heap.size) : Below B W0 w1 := h.grown hg hs (fun k hk => by injection hk with hk; omega)
theorem keep_only {w W w1 : World} {g g1 : Nat} (h : KeepBut w W g none) (hg : W.grownBy w1 (some g1)) (hn : w.heap.size ≤ g1) : KeepBut w w1 g none :=
 ⟨Nat.le_trans h.1 hg.size, fun i hi hne hr => (hg.block i (Nat.lt_of_lt_of_le hi h.1) (fun e => by injection e with e; omega)).trans (h.2 i hi hne hr)⟩
theorem blk_only {W w1 : World} {g g1 : Nat} {ob : Obj} (h : W.heap[g]? = some ob) (hg : W.grownBy w1 (some g1)) (hne : g ≠ g1) : w1.heap[g]? = some ob := blk_grown h hg (fun e => by injection e with e; exact hne e)
theorem R_only {α : Type} {d : Kd α} {e : Nat} {W w1 : World} {base g1 : Nat} {ok : Nat → Prop} {v : Value} {xs : List α} (h : d.R e W base ok v xs) (hg : W.grownBy w1 (some g1)) (hok : ∀ k, ok k → k ≠ g1) : d.R e w1 base ok v xs := Kd.R_grown h hg (fun k hk e => by injection e with e; exact hok k hk e)
theorem results_c {P : Program} {fn : Func} {p : Tmp} {ty : TypeId} (h : fn.results = #[.cell p ty]) (tmps : Array Value) (w : World) (g : Nat) (t : TypeId) (cs : Array Value) (d : TypeDesc) (hp : tmps.getD p undef = .pointer (some ⟨g, 0, none⟩)) (hg : w.heap[g]? = some (.cells cs t (0, 0)))
  (hu : P.underlying ty = some d) (hd : (match d with | .struct _ | .array _ _ => true | _ => false) = true) (hi : (P.info? ty).map (·.size) = some cs.size) : (results fn tmps).run P w = .ok (.agg cs) w := by
 have hp' : tmps[p]?.getD undef = .pointer (some ⟨g, 0, none⟩) := by simpa using hp
 simp [results, h, hp', asAddr, run_loadVar_row w g t ty cs (0, 0) d hg hu hd hi]
end Go.Proofs.Ytjfgapaohldbkaa.WireBlk


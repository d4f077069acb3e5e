/- Written by a program of this session (wip/myprint.sh): contracts of Go functions of the translation: each call comes to what the Lean function of its name says. -/
import Derived.Test.YtjfgapaohldbkaaZQAll
import Derived.Test.YtjfgapaohldbkaaZQAx12
import Derived.Test.YtjfgapaohldbkaaZQAx13
namespace Go.Proofs.Ytjfgapaohldbkaa.QA
open Go.RowKit Go.Proofs.YtjfgapaohldbkaaW.PrintWords Go.Proofs.YtjfgapaohldbkaaW.PrintLast Go.Proofs.YtjfgapaohldbkaaW.PrintMore
attribute [local go_sem] max2_int min2_int max_two min_two max_three min_three max_four min_four   -- for this text's walks alone
set_option linter.unusedVariables false
set_option linter.unusedSimpArgs false
mutual
def antipoderef14_Joint.l0 : Nat → List Int → List (S43) → Int → Int → Int → Int → Int → Int → Int → Int → Int → Int → Int → Bool → Option (List Int)
 | 0, _, _, _, _, _, _, _, _, _, _, _, _, _, _ => none
 | k + 1, x3, x4, x5, x499000, x499001, x499002, x499003, x499004, x499005, x499006, x499007, x499008, x499009, x499010 => if x5 < 2 then (if 0 ≤ x5 then (if x5 < (x4.length : Int) then (antipoderef14_Joint.l1 k x3 x4 x5 (([(rd_T43 x4 x5).f0, (rd_T43 x4 x5).f1, (rd_T43 x4 x5).f2] : List Int)) 0 x499000 x499001 x499002 x499003 x499004 x499005 x499006 x499007 x499008 x499009 x499010 ((rd_T43 x4 x5).f0) ((rd_T43 x4 x5).f1) ((rd_T43 x4 x5).f2) ((rd_T43 x4 x5).f3) ((rd_T43 x4 x5).f4)) else (none)) else (none)) else ((antipoderef14_f.f x3 x499010).bind fun t502 => (some t502))
def antipoderef14_Joint.l1 : Nat → List Int → List (S43) → Int → List Int → Int → Int → Int → Int → Int → Int → Int → Int → Int → Int → Int → Bool → Int → Int → Int → Int → Int → Option (List Int)
 | 0, _, _, _, _, _, _, _, _, _, _, _, _, _, _, _, _, _, _, _, _, _ => none
 | k + 1, x3, x4, x5, x7, x8, x499000, x499001, x499002, x499003, x499004, x499005, x499006, x499007, x499008, x499009, x499010, x507000, x507001, x507002, x507003, x507004 => if x8 < 3 then (if 0 ≤ x8 then (if x8 < (x7.length : Int) then ((antipoderef1_Put.f k x3 (IntKind.u64.wrap (rd x7 x8)) 2).bind fun bt511 => (antipoderef14_Joint.l1 k bt511.1 x4 x5 x7 (wrap64 (x8 + 1)) x499000 x499001 x499002 x499003 x499004 x499005 x499006 x499007 x499008 x499009 x499010 x507000 x507001 x507002 x507003 x507004)) else (none)) else (none)) else ((antipoderef14_n.f k x3 x507003).bind fun t515 => ((antipoderef14_n.f k t515 x507004).bind fun t518 => (antipoderef14_Joint.l0 k t518 x4 (wrap64 (x5 + 1)) x499000 x499001 x499002 x499003 x499004 x499005 x499006 x499007 x499008 x499009 x499010)))
end
mutual
def antipoderef1_TakeVar.l0 : Nat → List Int → Int → Int → Int → Option (Int × Int × Int)
 | 0, _, _, _, _ => none
 | k + 1, x0, x5, x6, x7 => if x7 < 10 then (if x7 ≥ (x0.length : Int) then (some (0, 0, 2)) else (if x7 = 9 then (if 0 ≤ x7 then (if x7 < (x0.length : Int) then (antipoderef1_TakeVar.j1 k x0 x5 x6 x7 (decide ((rd x0 x7) > 1))) else (none)) else (none)) else (antipoderef1_TakeVar.j1 k x0 x5 x6 x7 false))) else (some (0, 0, 5))
def antipoderef1_TakeVar.j1 : Nat → List Int → Int → Int → Int → Bool → Option (Int × Int × Int)
 | 0, _, _, _, _, _ => none
 | k + 1, x0, x5, x6, x7, x24 => if x24 = true then (some (0, 0, 5)) else (if 0 ≤ x7 then (if x7 < (x0.length : Int) then (if (rd x0 x7) < 128 then (if (rd x0 x7) = 0 then (if x7 > 0 then (some (0, 0, 9)) else (some (IntKind.u64.wrap (x5 + (IntKind.u64.wrap ((IntKind.u64.wrap (Int.tmod (rd x0 x7) 128)) * x6))), wrap64 (x7 + 1), 0))) else (some (IntKind.u64.wrap (x5 + (IntKind.u64.wrap ((IntKind.u64.wrap (Int.tmod (rd x0 x7) 128)) * x6))), wrap64 (x7 + 1), 0))) else (antipoderef1_TakeVar.l0 k x0 (IntKind.u64.wrap (x5 + (IntKind.u64.wrap ((IntKind.u64.wrap (Int.tmod (rd x0 x7) 128)) * x6)))) (IntKind.u64.wrap (x6 * 128)) (wrap64 (x7 + 1)))) else (none)) else (none))
end
end Go.Proofs.Ytjfgapaohldbkaa.QA


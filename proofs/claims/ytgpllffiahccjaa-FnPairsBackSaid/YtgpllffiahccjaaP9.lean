/- RowPairs: the reference's. -/
import Derived.Test.YtgpllffiahccjaaP7
import Derived.Test.YtgpllffiahccjaaSInt64
import Derived.Deep.RegionHeldLaw
import Derived.Deep.AppendLies
namespace Go.Proofs.Ytgpllffiahccjaa
set_option linter.unusedSimpArgs false
set_option linter.unusedVariables false
attribute [local go_sem] n_lt2 n_lt3 n_lt4 n_le2 n_le3
open Go.RowKit
theorem PR_take2 {l : List Pr} {k : Nat} (h : k < l.length) : PR (l.take (k + 1)) = PR (l.take k) ++ [(l.getD k default).k, (l.getD k default).v] := by
  rw [List.take_add_one, PR_append]
  congr 1
  simp [PR, List.getD, h]
theorem row_get {a : Int} {l : List Pr} {k q : Nat} (hq : q = 1 + 2 * k) (h : k < l.length) : (a :: PR l).getD q 0 = (l.getD k default).k ∧ (a :: PR l).getD (q + 1) 0 = (l.getD k default).v := by
  subst hq
  constructor
  · rw [show 1 + 2 * k = k * 2 + 1 by omega, List.getD_cons_succ, PR_get0 l k h]
  · rw [show 1 + 2 * k + 1 = (k * 2 + 1) + 1 by omega, List.getD_cons_succ, PR_get1 l k h]
def rowGood (a : Int) (l : List Pr) : Bool := decide (a = (l.length : Int)) && pairsB l
def rowSel (a : Int) (l : List Pr) : List Pr := if rowGood a l = true then l else []
attribute [local go_sem] Ext.cell Ext.frozen

end Go.Proofs.Ytgpllffiahccjaa

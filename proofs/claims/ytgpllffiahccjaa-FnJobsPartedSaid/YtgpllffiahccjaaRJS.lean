/- RowOrders: the reference's. -/
import Derived.Test.YtgpllffiahccjaaJ6
import Derived.Test.YtgpllffiahccjaaSJob
import Derived.Test.YtgpllffiahccjaaP7
import Derived.Deep.RegionHeldLaw
import Derived.Deep.AppendLies
namespace Go.Proofs.Ytgpllffiahccjaa
set_option linter.unusedSimpArgs false
set_option linter.unusedVariables false
attribute [local go_sem] n_lt2 n_lt3 n_lt4 n_le2 n_le3
open Go.RowKit
theorem JB_inj {a b : List Jb} (h : JB a = JB b) : a = b := by
  have hl : a.length = b.length := by
    have := congrArg List.length h
    rw [JB_len, JB_len] at this
    omega
  apply List.ext_getElem hl
  intro i h1 h2
  have e : ∀ j, j < 5 → _ := fun j hj => JB_get a i j h1 hj
  have e' : ∀ j, j < 5 → _ := fun j hj => JB_get b i j h2 hj
  rw [h] at e
  have e0 := (e 0 (by decide)).symm.trans (e' 0 (by decide))
  have e1 := (e 1 (by decide)).symm.trans (e' 1 (by decide))
  have e2 := (e 2 (by decide)).symm.trans (e' 2 (by decide))
  have e3 := (e 3 (by decide)).symm.trans (e' 3 (by decide))
  have e4 := (e 4 (by decide)).symm.trans (e' 4 (by decide))
  have ga : a.getD i default = a[i] := by simp [List.getD, h1]
  have gb : b.getD i default = b[i] := by simp [List.getD, h2]
  rw [ga, gb] at e0 e1 e2 e3 e4
  cases ha : a[i]; cases hb : b[i]
  rw [ha, hb] at e0 e1 e2 e3 e4
  simp only [List.getD_cons_zero, List.getD_cons_succ] at e0 e1 e2 e3 e4
  rw [e0, e1, e2, e3, e4]
theorem rowj_get {a : Int} {l : List Jb} {k q t : Nat} (hq : q = 1 + 5 * k) (h : k < l.length) (ht : t < 5) : (a :: JB l).getD (q + t) 0 = [(l.getD k default).i, (l.getD k default).d, (l.getD k default).k, (l.getD k default).v, (l.getD k default).f].getD t 0 := by
  subst hq
  rw [show 1 + 5 * k + t = (k * 5 + t) + 1 by omega, List.getD_cons_succ, JB_get l k t h ht]
theorem jobsB_len {l : List Jb} (h : jobsB l = true) : l.length ≤ 10 := Nat.le_trans (jobsB_all h).1 (by decide)
def rowGoodJ (a : Int) (l : List Jb) : Bool := decide (a = (l.length : Int)) && jobsB l
def rowSelJ (a : Int) (l : List Jb) : List Jb := if rowGoodJ a l = true then l else []
attribute [local go_sem] Ext.cell Ext.frozen

end Go.Proofs.Ytgpllffiahccjaa

/- ValueAt: the program's and the reference's. -/
import Derived.Test.YtodkcanhlpgpgaaP1
import Derived.Test.YtodkcanhlpgpgaaNm
namespace Go.Proofs.Ytodkcanhlpgpgaa
set_option linter.unusedSimpArgs false
set_option linter.unusedVariables false
attribute [local go_sem] n_lt2 n_lt3 n_lt4 n_le2 n_le3
open Go.RowKit

/-- The place of the first pair with this key, or the list's length. -/
def keyIx (l : List Pr) (key : Int) : Nat := l.findIdx (fun p => decide (p.k = key))
def keyAt (l : List Pr) (key : Int) : Int := if keyIx l key < l.length then (keyIx l key : Int) else -1
def valAt (l : List Pr) (key : Int) : Int × Bool := if keyIx l key < l.length then ((l.getD (keyIx l key) default).v, true) else (0, false)
def valueAtB (l : List Pr) (key : Int) : Int × Bool := if pairsB l = true then valAt l key else (0, false)
theorem keyIx_some {l : List Pr} {key : Int} {k : Nat} (hk : k < l.length) (hj : ∀ j, j < k → (l.getD j default).k ≠ key) (h : (l.getD k default).k = key) : keyIx l key = k := by
  unfold keyIx
  rw [List.findIdx_eq hk]
  refine ⟨?_, fun j hjk => ?_⟩
  · have : l.getD k default = l[k] := by simp [List.getD, hk]
    rw [this] at h
    simpa using h
  · have hj' := hj j hjk
    have : l.getD j default = l[j] := by simp [List.getD, Nat.lt_trans hjk hk]
    rw [this] at hj'
    simpa using hj'
theorem keyIx_none {l : List Pr} {key : Int} (hj : ∀ j, j < l.length → (l.getD j default).k ≠ key) : keyIx l key = l.length := by
  unfold keyIx
  rw [List.findIdx_eq_length]
  intro x hx
  obtain ⟨i, hi, rfl⟩ := List.getElem_of_mem hx
  have hj' := hj i hi
  have : l.getD i default = l[i] := by simp [List.getD, hi]
  rw [this] at hj'
  simpa using hj'
theorem keyAt_some {l : List Pr} {key : Int} {k : Nat} (hk : k < l.length) (hj : ∀ j, j < k → (l.getD j default).k ≠ key) (h : (l.getD k default).k = key) : keyAt l key = k := by
  unfold keyAt
  rw [keyIx_some hk hj h, if_pos hk]
theorem keyAt_none {l : List Pr} {key : Int} (hj : ∀ j, j < l.length → (l.getD j default).k ≠ key) : keyAt l key = -1 := by
  unfold keyAt
  rw [keyIx_none hj, if_neg (Nat.lt_irrefl _)]
theorem valAt_some {l : List Pr} {key : Int} {k : Nat} (hk : k < l.length) (hj : ∀ j, j < k → (l.getD j default).k ≠ key) (h : (l.getD k default).k = key) : valAt l key = ((l.getD k default).v, true) := by
  unfold valAt
  rw [keyIx_some hk hj h, if_pos hk]
theorem valAt_none {l : List Pr} {key : Int} (hj : ∀ j, j < l.length → (l.getD j default).k ≠ key) : valAt l key = (0, false) := by
  unfold valAt
  rw [keyIx_none hj, if_neg (Nat.lt_irrefl _)]
theorem below_upto {l : List Pr} {key : Int} {k : Nat} (h : ∀ j, j < k → (l.getD j default).k ≠ key) (hk : (l.getD k default).k ≠ key) : ∀ j, j < k + 1 → (l.getD j default).k ≠ key := fun j hj => by
  rcases Nat.lt_or_ge j k with h1 | h1
  · exact h j h1
  · obtain rfl : j = k := by omega
    exact hk
attribute [local go_sem] Ext.cell Ext.frozen

end Go.Proofs.Ytodkcanhlpgpgaa

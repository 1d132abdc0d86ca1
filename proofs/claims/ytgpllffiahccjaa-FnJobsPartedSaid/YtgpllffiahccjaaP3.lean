/- ValueAt: the program's and the reference's. -/
import Derived.Test.YtgpllffiahccjaaP1
import Derived.Test.YtgpllffiahccjaaNm
namespace Go.Proofs.Ytgpllffiahccjaa
set_option linter.unusedSimpArgs false
set_option linter.unusedVariables false
attribute [local go_sem] n_lt2 n_lt3 n_lt4 n_le2 n_le3
open Go.RowKit

/-- The place of the first pair with this key, or the list's length. -/
def keyIx (l : List Pr) (key : Int) : Nat := l.findIdx (fun p => decide (p.k = key))
def keyAt (l : List Pr) (key : Int) : Int := if keyIx l key < l.length then (keyIx l key : Int) else -1
def valAt (l : List Pr) (key : Int) : Int × Bool := if keyIx l key < l.length then ((l.getD (keyIx l key) default).v, true) else (0, false)
def valueAtB (l : List Pr) (key : Int) : Int × Bool := if pairsB l = true then valAt l key else (0, false)
theorem keyIx_some {l : List Pr} {key : Int} {k : Nat} (hk : k < l.length) (hj : ∀ j, j < k → (l.getD j default).k ≠ key) (h : (l.getD k default).k = key) : keyIx l key = k := by
  unfold keyIx
  rw [List.findIdx_eq hk]
  refine ⟨?_, fun j hjk => ?_⟩
  · have : l.getD k default = l[k] := by simp [List.getD, hk]
    rw [this] at h
    simpa using h
  · have hj' := hj j hjk
    have : l.getD j default = l[j] := by simp [List.getD, Nat.lt_trans hjk hk]
    rw [this] at hj'
    simpa using hj'
theorem keyIx_none {l : List Pr} {key : Int} (hj : ∀ j, j < l.length → (l.getD j default).k ≠ key) : keyIx l key = l.length := by
  unfold keyIx
  rw [List.findIdx_eq_length]
  intro x hx
  obtain ⟨i, hi, rfl⟩ := List.getElem_of_mem hx
  have hj' := hj i hi
  have : l.getD i default = l[i] := by simp [List.getD, hi]
  rw [this] at hj'
  simpa using hj'
theorem keyAt_some {l : List Pr} {key : Int} {k : Nat} (hk : k < l.length) (hj : ∀ j, j < k → (l.getD j default).k ≠ key) (h : (l.getD k default).k = key) : keyAt l key = k := by
  unfold keyAt
  rw [keyIx_some hk hj h, if_pos hk]
theorem keyAt_none {l : List Pr} {key : Int} (hj : ∀ j, j < l.length → (l.getD j default).k ≠ key) : keyAt l key = -1 := by
  unfold keyAt
  rw [keyIx_none hj, if_neg (Nat.lt_irrefl _)]
theorem valAt_some {l : List Pr} {key : Int} {k : Nat} (hk : k < l.length) (hj : ∀ j, j < k → (l.getD j default).k ≠ key) (h : (l.getD k default).k = key) : valAt l key = ((l.getD k default).v, true) := by
  unfold valAt
  rw [keyIx_some hk hj h, if_pos hk]
theorem valAt_none {l : List Pr} {key : Int} (hj : ∀ j, j < l.length → (l.getD j default).k ≠ key) : valAt l key = (0, false) := by
  unfold valAt
  rw [keyIx_none hj, if_neg (Nat.lt_irrefl _)]
theorem below_upto {l : List Pr} {key : Int} {k : Nat} (h : ∀ j, j < k → (l.getD j default).k ≠ key) (hk : (l.getD k default).k ≠ key) : ∀ j, j < k + 1 → (l.getD j default).k ≠ key := fun j hj => by
  rcases Nat.lt_or_ge j k with h1 | h1
  · exact h j h1
  · obtain rfl : j = k := by omega
    exact hk
attribute [local go_sem] Ext.cell Ext.frozen

theorem pairKey_any (a b : Int) (w : World) :
    Calls Try.prog 101 #[.agg #[.int .i64 a, .int .i64 b]] w fun e' w' => e' = .returned (.int .i64 a) ∧ Below w.heap.size w w' := by
  go_enter Try.func101, Try.ntmps101
  go_wp2
  go_ret
  exact ⟨rfl, by (repeat' (first | (with_reducible exact Below.refl _ _) | (with_reducible assumption) | (with_reducible refine Below.alloc ?_ ?_ _) | (with_reducible refine Below.drew ?_) | (with_reducible refine Below.setCell ?_ ?_ _) | (with_reducible refine bstep (by assumption) ?_ ?_) | (with_reducible exact Nat.le_refl _) | omega | (simp [*]; done) | (simp [*]; omega)))⟩
set_option maxHeartbeats 400000 in
theorem isKey_any (x y key : Int) (p q : Nat) (w : World) (hp : w.cell? ⟨p, 0, none⟩ = some (.func (.func 101) #[] #[])) (hq : w.cell? ⟨q, 0, none⟩ = some (.int .i64 key)) (hpl : p < w.heap.size) (hql : q < w.heap.size) :
    Calls Try.prog 139 #[.agg #[.int .i64 x, .int .i64 y], .pointer (some ⟨p, 0, none⟩), .pointer (some ⟨q, 0, none⟩)] w fun e' w' => e' = .returned (.bool (decide (x = key))) ∧ Below w.heap.size w w' := by
  go_enter Try.func139, Try.ntmps139
  go_wp2
  ((refine wp_region_ext (by kernel_rfl) (by kernel_rfl) ?_); (repeat (any_goals (first | go_big_quiet_step ((go_at_call 101; exact quiet_ext (pairKey_any _ _ _))) | (refine wpQuiet_step (fun K hK => ?_); go_simp; split <;> (refine hK _ ?_; clear hK K)) | quiet_step ((go_at_call 101; exact quiet_ext (pairKey_any _ _ _)))))); (all_goals (refine wpQuiet_nil ?_; rintro _ ⟨z, rfl⟩; have hb' := z.h; generalize z.w = w1 at hb' ⊢; clear z; (first | (have hb2 := bstep hb' hb hb.size; clear hb' hcb hfb hz1 hz2 hz3 hz4 hb; have hb := hb2; clear hb2) | (have hb := hb'; clear hb')); obtain ⟨hcb, hfb, hz1, hz2, hz3, hz4⟩ := bcell hb; (try simp only [World.size_alloc, World.size_setCell, World.size_drew, Nat.lt_add_one_iff, Nat.add_assoc, Nat.reduceAdd] at hz1 hz2 hz3 hz4))))
  all_goals go_wp2
  all_goals go_ret
  all_goals exact ⟨ret_bool (by (first | rfl | (simp [*]; done) | (subst_vars; simp [*]; done) | (simp_all; done))), by (repeat' (first | (with_reducible exact Below.refl _ _) | (with_reducible assumption) | (with_reducible refine Below.alloc ?_ ?_ _) | (with_reducible refine Below.drew ?_) | (with_reducible refine Below.setCell ?_ ?_ _) | (with_reducible refine bstep (by assumption) ?_ ?_) | (with_reducible exact Nat.le_refl _) | omega | (simp [*]; done) | (simp [*]; omega)))⟩
end Go.Proofs.Ytgpllffiahccjaa

/- A job that is fired is fired once: plain. -/
import Derived.Test.YtgpllffiahccjaaAddL
namespace Go.Proofs.Ytgpllffiahccjaa
set_option linter.unusedSimpArgs false
set_option linter.unusedVariables false
attribute [local go_sem] n_lt2 n_lt3 n_lt4 n_le2 n_le3
open Go.RowKit
theorem fset_len (l : List Jb) (k : Nat) (x : Int) : (firedSet l k x).length = l.length := by unfold firedSet; simp
theorem fset_get (l : List Jb) (k : Nat) (x : Int) (hk : k < l.length) (j : Nat) : (firedSet l k x).getD j default = if j = k then { (l.getD k default) with f := x } else l.getD j default := by
  unfold firedSet
  by_cases h : j = k
  · subst h
    rw [if_pos rfl, List.getD_eq_getElem?_getD, List.getElem?_set_self hk]
    rfl
  · rw [if_neg h, List.getD_eq_getElem?_getD, List.getElem?_set_ne (fun e => h e.symm), ← List.getD_eq_getElem?_getD]
theorem fset_i (l : List Jb) (k : Nat) (x : Int) (hk : k < l.length) (j : Nat) : ((firedSet l k x).getD j default).i = (l.getD j default).i := by
  rw [fset_get l k x hk]
  split
  · rename_i h; subst h; rfl
  · rfl
theorem before_iff (l : List Jb) (i : Nat) (x : Int) : firedBefore l i x = true ↔ ∃ m, m < i ∧ (l.getD m default).f = x := by
  unfold firedBefore
  simp [List.any_eq_true]
theorem firedOk_parts {l : List Jb} {id x : Int} (h : firedOk l id x = true) : jobIx l id < l.length ∧ (l.getD (jobIx l id) default).f = 0 ∧ 1 ≤ x ∧ x ≤ 2000 ∧ ∀ m, m < l.length → (l.getD m default).f ≠ x := by
  unfold firedOk at h
  simp only [Bool.and_eq_true, decide_eq_true_eq, inB_iff, Bool.not_eq_true'] at h
  obtain ⟨h1, h2, ⟨h3, h4⟩, h5⟩ := h
  refine ⟨h1, h2, h3, h4, fun m hm he => ?_⟩
  have := (before_iff l l.length x).2 ⟨m, hm, he⟩
  rw [h5] at this
  cases this
theorem fset_ok {l : List Jb} {id x : Int} (hb : jobsB l = true) (ho : firedOk l id x = true) : jobsB (firedSet l (jobIx l id) x) = true := by
  obtain ⟨hk, hf, hx1, hx2, hno⟩ := firedOk_parts ho
  generalize jobIx l id = k at hk hf ⊢
  obtain ⟨h8, hall⟩ := jobsB_all hb
  refine jobsB_true (by rw [fset_len]; exact h8) (fun j hj => ?_)
  rw [fset_len] at hj
  have hj0 := hall j hj
  unfold jobAtB at hj0 ⊢
  simp only [Bool.and_eq_true, Bool.or_eq_true, decide_eq_true_eq, Bool.not_eq_true', Bool.and_eq_false_iff, decide_eq_false_iff_not] at hj0 ⊢
  obtain ⟨h1, h2, h3⟩ := hj0
  refine ⟨?_, ?_, ?_⟩
  · rw [fset_get l k x hk]
    split
    · rename_i h
      subst h
      unfold jobOkB jobB at h1 ⊢
      simp only [Bool.and_eq_true, inB_iff] at h1 ⊢
      omega
    · exact h1
  · rw [fset_i l k x hk, fset_i l k x hk]
    exact h2
  · by_cases h : j = k
    · subst h
      right
      rw [Bool.eq_false_iff]
      intro hc
      obtain ⟨m, hm, he⟩ := (before_iff _ _ _).1 hc
      rw [fset_get l j x hk, fset_get l j x hk, if_neg (by omega), if_pos rfl] at he
      exact hno m (by omega) he
    · rw [fset_get l k x hk, if_neg h]
      rcases h3 with h3 | h3
      · exact .inl h3
      · right
        rw [Bool.eq_false_iff]
        intro hc
        obtain ⟨m, hm, he⟩ := (before_iff _ _ _).1 hc
        rw [fset_get l k x hk] at he
        by_cases hmk : m = k
        · rw [if_pos hmk] at he
          exact hno j hj he.symm
        · rw [if_neg hmk] at he
          have := (before_iff l j _).2 ⟨m, hm, he⟩
          rw [h3] at this
          cases this
/-- What the law asks of a job list in which a job was just fired. -/
theorem once_job {l : List Jb} {id x : Int} (hb : jobsB l = true) (ho : firedOk l id x = true) :
    jobsB (firedSet l (jobIx l id) x) = true ∧ (jobAtV (firedSet l (jobIx l id) x) id).2 = true ∧ (jobAtV (firedSet l (jobIx l id) x) id).1.f = x ∧ (∀ y, (firedR (firedSet l (jobIx l id) x) id y).2 = false) ∧ (∀ b c d f, (addR (firedSet l (jobIx l id) x) ⟨id, b, c, d, f⟩).2 = false) := by
  have hB := fset_ok hb ho
  obtain ⟨hk, hf, hx1, hx2, hno⟩ := firedOk_parts ho
  have hid := jobIx_hit hk
  have hix : jobIx (firedSet l (jobIx l id) x) id = jobIx l id := jobIx_at hB (by rw [fset_len]; exact hk) (by rw [fset_i l _ x hk]; exact hid)
  have hv : jobAtV (firedSet l (jobIx l id) x) id = ((firedSet l (jobIx l id) x).getD (jobIx l id) default, true) := by
    unfold jobAtV
    rw [hix, fset_len, if_pos hk]
  refine ⟨hB, by rw [hv], by rw [hv, fset_get l _ x hk, if_pos rfl], fun y => ?_, fun b c d f => ?_⟩
  · unfold firedR
    rw [if_pos hB]
    have hn : firedOk (firedSet l (jobIx l id) x) id y = false := by
      unfold firedOk
      rw [hix, fset_get l _ x hk, if_pos rfl]
      have : decide (x = 0) = false := by simp; omega
      simp only [this, Bool.false_and, Bool.and_false]
    rw [if_neg (by rw [hn]; decide)]
  · unfold addR
    rw [if_pos hB]
    have hn : addOk (firedSet l (jobIx l id) x) ⟨id, b, c, d, f⟩ = false := by
      unfold addOk
      simp only [hv]
      simp
    rw [if_neg (by rw [hn]; decide)]
theorem once_of {l z : List Jb} {id x : Int} (h : firedR l id x = (z, true)) : jobsB z = true ∧ (jobAtR z id).2 = true ∧ (jobAtR z id).1.f = x ∧ (∀ y, (firedR z id y).2 = false) ∧ (∀ b c d f, (addR z ⟨id, b, c, d, f⟩).2 = false) := by
  unfold firedR at h
  split at h
  · rename_i hb
    split at h
    · rename_i ho
      injection h with h1 _
      subst h1
      obtain ⟨a, b, c, d, e⟩ := once_job hb ho
      unfold jobAtR
      rw [if_pos a]
      exact ⟨a, b, c, d, e⟩
    · injection h with _ h2; cases h2
  · injection h with _ h2; cases h2
end Go.Proofs.Ytgpllffiahccjaa

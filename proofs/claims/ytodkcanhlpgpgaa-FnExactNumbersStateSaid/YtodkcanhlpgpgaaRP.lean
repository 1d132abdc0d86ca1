/- RowPairs: the program's; both as one function of the row. -/
import Derived.Test.YtodkcanhlpgpgaaP9
import Derived.Test.YtodkcanhlpgpgaaTP
namespace Go.Proofs.Ytodkcanhlpgpgaa
set_option linter.unusedSimpArgs false
set_option linter.unusedVariables false
attribute [local go_sem] n_lt2 n_lt3 n_lt4 n_le2 n_le3
open Go.RowKit
attribute [local go_sem] Ext.cell Ext.frozen

open Classical in
/-- The list that a row holds. -/
noncomputable def rowPairsR (zs : List Int) : List Pr × Bool := if h : ∃ l : List Pr, zs = (l.length : Int) :: PR l ∧ pairsB l = true then (Classical.choose h, true) else ([], false)
theorem rowPairsR_yes {zs : List Int} {l : List Pr} (h : zs = (l.length : Int) :: PR l) (hb : pairsB l = true) : rowPairsR zs = (l, true) := by
  have hex : ∃ l : List Pr, zs = (l.length : Int) :: PR l ∧ pairsB l = true := ⟨l, h, hb⟩
  unfold rowPairsR
  rw [dif_pos hex]
  have h2 := h.symm.trans (Classical.choose_spec hex).1
  injection h2 with _ h3
  exact congrArg (fun x => (x, true)) (PR_inj h3).symm
theorem rowPairsR_no {zs : List Int} (h : ∀ l : List Pr, zs = (l.length : Int) :: PR l → pairsB l = false) : rowPairsR zs = ([], false) := by
  unfold rowPairsR
  rw [dif_neg]
  rintro ⟨l, h1, h2⟩
  rw [h l h1] at h2
  cases h2
theorem rowPairsR_len (zs : List Int) : (rowPairsR zs).1.length ≤ 10 := by
  unfold rowPairsR
  split
  · rename_i h
    exact pairsB_len (Classical.choose_spec h).2
  · simp
theorem specRowPairsR_any (A : Option Addr) (n cap : Nat) (zs : List Int) (w : World) (hS : Sl w 1 A n zs) (hn : n ≤ maxLen) :
    Calls Try.prog 71 #[.slice A n cap] w (RetRowB w 114 2 (rowPairsR zs).1.length (PR (rowPairsR zs).1) (rowPairsR zs).2) := by
  have hlen := hS.len
  by_cases hm : n % 2 = 1
  · by_cases hlong : n ≤ 21
    · obtain ⟨m, hnm⟩ : ∃ m, n = 2 * m + 1 := ⟨n / 2, by omega⟩
      match zs, hlen with
      | [], hlen => simp at hlen; omega
      | a :: r, hlen =>
        obtain ⟨l, hl, rfl⟩ := PR_of m r (by simp at hlen; omega)
        have c := specRowPairs_good A n cap m a l w hS hl hnm (by omega)
        by_cases hg : rowGood a l = true
        · have e : rowPairsR (a :: PR l) = (l, true) := by
            unfold rowGood at hg
            simp only [Bool.and_eq_true, decide_eq_true_eq] at hg
            exact rowPairsR_yes (by rw [hg.1]) hg.2
          have e2 : rowSel a l = l := by unfold rowSel; rw [if_pos hg]
          rw [e]
          rw [e2, hg] at c
          exact c
        · have hg' : rowGood a l = false := by simpa using hg
          have e : rowPairsR (a :: PR l) = ([], false) := by
            refine rowPairsR_no (fun l' h => ?_)
            injection h with h1 h2
            have h3 := PR_inj h2
            subst h3
            unfold rowGood at hg'
            rw [decide_eq_true h1] at hg'
            simpa using hg'
          have e2 : rowSel a l = [] := by unfold rowSel; rw [hg']; rfl
          rw [e]
          rw [e2, hg'] at c
          exact c
    · have e : rowPairsR zs = ([], false) := rowPairsR_no (fun l h => by
        rw [← Bool.not_eq_true]
        intro hb
        have h1 := pairsB_len hb
        have h2 := congrArg List.length h
        rw [List.length_cons, PR_len] at h2
        skip
        omega)
      rw [e]
      exact specRowPairs_long A n cap w hn hm (by omega)
  · have e : rowPairsR zs = ([], false) := rowPairsR_no (fun l h => by
      have h2 := congrArg List.length h
      rw [List.length_cons, PR_len] at h2
      omega)
    rw [e]
    exact specRowPairs_even A n cap w hn hm
end Go.Proofs.Ytodkcanhlpgpgaa

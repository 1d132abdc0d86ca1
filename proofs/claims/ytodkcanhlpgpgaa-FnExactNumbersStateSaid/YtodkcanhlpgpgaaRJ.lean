/- RowOrders: the program's; both as one function of the row. -/
import Derived.Test.YtodkcanhlpgpgaaRJS
import Derived.Test.YtodkcanhlpgpgaaTJ
namespace Go.Proofs.Ytodkcanhlpgpgaa
set_option linter.unusedSimpArgs false
set_option linter.unusedVariables false
attribute [local go_sem] n_lt2 n_lt3 n_lt4 n_le2 n_le3
open Go.RowKit
attribute [local go_sem] Ext.cell Ext.frozen

open Classical in
/-- The list that a row holds. -/
noncomputable def rowOrdersR (zs : List Int) : List Jb × Bool := if h : ∃ l : List Jb, zs = (l.length : Int) :: JB l ∧ jobsB l = true then (Classical.choose h, true) else ([], false)
theorem rowOrdersR_yes {zs : List Int} {l : List Jb} (h : zs = (l.length : Int) :: JB l) (hb : jobsB l = true) : rowOrdersR zs = (l, true) := by
  have hex : ∃ l : List Jb, zs = (l.length : Int) :: JB l ∧ jobsB l = true := ⟨l, h, hb⟩
  unfold rowOrdersR
  rw [dif_pos hex]
  have h2 := h.symm.trans (Classical.choose_spec hex).1
  injection h2 with _ h3
  exact congrArg (fun x => (x, true)) (JB_inj h3).symm
theorem rowOrdersR_no {zs : List Int} (h : ∀ l : List Jb, zs = (l.length : Int) :: JB l → jobsB l = false) : rowOrdersR zs = ([], false) := by
  unfold rowOrdersR
  rw [dif_neg]
  rintro ⟨l, h1, h2⟩
  rw [h l h1] at h2
  cases h2
theorem rowOrdersR_len (zs : List Int) : (rowOrdersR zs).1.length ≤ 10 := by
  unfold rowOrdersR
  split
  · rename_i h
    exact jobsB_len (Classical.choose_spec h).2
  · simp
theorem specRowOrdersR_any (A : Option Addr) (n cap : Nat) (zs : List Int) (w : World) (hS : Sl w 1 A n zs) (hn : n ≤ maxLen) :
    Calls Try.prog 72 #[.slice A n cap] w (RetRowB w 70 5 (rowOrdersR zs).1.length (JB (rowOrdersR zs).1) (rowOrdersR zs).2) := by
  have hlen := hS.len
  by_cases hm : n % 5 = 1
  · by_cases hlong : n ≤ 41
    · obtain ⟨m, hnm⟩ : ∃ m, n = 5 * m + 1 := ⟨n / 5, by omega⟩
      match zs, hlen with
      | [], hlen => simp at hlen; omega
      | a :: r, hlen =>
        obtain ⟨l, hl, rfl⟩ := JB_of m r (by simp at hlen; omega)
        have c := specRowOrders_good A n cap m a l w hS hl hnm (by omega)
        by_cases hg : rowGoodJ a l = true
        · have e : rowOrdersR (a :: JB l) = (l, true) := by
            unfold rowGoodJ at hg
            simp only [Bool.and_eq_true, decide_eq_true_eq] at hg
            exact rowOrdersR_yes (by rw [hg.1]) hg.2
          have e2 : rowSelJ a l = l := by unfold rowSelJ; rw [if_pos hg]
          rw [e]
          rw [e2, hg] at c
          exact c
        · have hg' : rowGoodJ a l = false := by simpa using hg
          have e : rowOrdersR (a :: JB l) = ([], false) := by
            refine rowOrdersR_no (fun l' h => ?_)
            injection h with h1 h2
            have h3 := JB_inj h2
            subst h3
            unfold rowGoodJ at hg'
            rw [decide_eq_true h1] at hg'
            simpa using hg'
          have e2 : rowSelJ a l = [] := by unfold rowSelJ; rw [hg']; rfl
          rw [e]
          rw [e2, hg'] at c
          exact c
    · have e : rowOrdersR zs = ([], false) := rowOrdersR_no (fun l h => by
        rw [← Bool.not_eq_true]
        intro hb
        have h1 := jobsB_len hb
        have h2 := congrArg List.length h
        rw [List.length_cons, JB_len] at h2
        have h4 := (jobsB_all hb).1
        omega)
      rw [e]
      exact specRowOrders_long A n cap w hn hm (by omega)
  · have e : rowOrdersR zs = ([], false) := rowOrdersR_no (fun l h => by
      have h2 := congrArg List.length h
      rw [List.length_cons, JB_len] at h2
      omega)
    rw [e]
    exact specRowOrders_odd A n cap w hn hm
end Go.Proofs.Ytodkcanhlpgpgaa

/- CutOut: the plain law: cutting out the one pair with a key is dropping all pairs with it. No program in sight. -/
import Derived.Test.YtgpllffiahccjaaP7
namespace Go.Proofs.Ytgpllffiahccjaa
set_option linter.unusedSimpArgs false
set_option linter.unusedVariables false
attribute [local go_sem] n_lt2 n_lt3 n_lt4 n_le2 n_le3
open Go.RowKit

theorem pairs_up {l : List Pr} (h : pairsB l = true) : ∀ d i, i + d + 1 < l.length → (l.getD i default).k < (l.getD (i + d + 1) default).k
  | 0, i, hi => by
    have := pairsB_all h (i + 1) (by omega)
    simp only [pairAt, Bool.and_eq_true, Bool.or_eq_true, decide_eq_true_eq, Nat.add_sub_cancel] at this
    rcases this.2.2 with h0 | h0
    · omega
    · exact h0
  | d + 1, i, hi => by
    have h1 := pairs_up h d i (by omega)
    have h2 := pairs_up h 0 (i + d + 1) (by omega)
    exact Int.lt_trans h1 h2
theorem pairs_apart {l : List Pr} (h : pairsB l = true) : l.Pairwise (fun p q => p.k ≠ q.k) := by
  rw [List.pairwise_iff_getElem]
  intro i j hi hj hij
  have := pairs_up h (j - i - 1) i (by omega)
  rw [show i + (j - i - 1) + 1 = j by omega] at this
  simp only [List.getD, List.getElem?_eq_getElem hi, List.getElem?_eq_getElem hj, Option.getD_some] at this
  omega
theorem cutL_all {l : List Pr} {key : Int} (h : ∀ p ∈ l, p.k ≠ key) : cutL l key = l := by
  unfold cutL
  rw [List.filter_eq_self]
  intro p hp
  simpa using h p hp
theorem cutL_erase_of : ∀ {l : List Pr} {key : Int}, l.Pairwise (fun p q => p.k ≠ q.k) → cutL l key = l.eraseIdx (keyIx l key)
  | [], _, _ => rfl
  | p :: l, key, h => by
    rw [List.pairwise_cons] at h
    by_cases hp : p.k = key
    · have h0 : keyIx (p :: l) key = 0 := by simp [keyIx, List.findIdx_cons, hp]
      rw [h0, List.eraseIdx_cons_zero]
      have h1 : cutL (p :: l) key = cutL l key := by simp [cutL, hp]
      rw [h1]
      exact cutL_all (fun q hq => by rw [← hp]; exact (h.1 q hq).symm)
    · have h0 : keyIx (p :: l) key = keyIx l key + 1 := by simp [keyIx, List.findIdx_cons, hp]
      have h1 : cutL (p :: l) key = p :: cutL l key := by simp [cutL, hp]
      rw [h0, h1, List.eraseIdx_cons_succ, cutL_erase_of h.2]
theorem cutL_erase {l : List Pr} (key : Int) (h : pairsB l = true) : cutL l key = l.eraseIdx (keyIx l key) := cutL_erase_of (pairs_apart h)
end Go.Proofs.Ytgpllffiahccjaa

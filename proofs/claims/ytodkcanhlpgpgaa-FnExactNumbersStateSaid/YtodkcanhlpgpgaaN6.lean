/- The reference's NumbersState, whole. -/
import Derived.Test.YtodkcanhlpgpgaaN2
import Derived.Test.YtodkcanhlpgpgaaN3
import Derived.Test.YtodkcanhlpgpgaaN4
import Derived.Test.YtodkcanhlpgpgaaN5
namespace Go.Proofs.Ytodkcanhlpgpgaa
set_option linter.unusedSimpArgs false
set_option linter.unusedVariables false
attribute [local go_sem] n_lt2 n_lt3 n_lt4 n_le2 n_le3
open Go.RowKit
theorem specNumbersState_any (A : Option Addr) (n cap : Nat) (zs : List Int) (w : World) (hS : Sl w 1 A n zs) (hn : n ≤ maxLen) (hc : n ≤ cap) :
    Calls Try.prog 28 #[.slice A n cap] w (RetStB w (numR zs).1 (numR zs).2) := by
  by_cases h : ∃ p q, Shape zs p q
  · obtain ⟨p, q, hsh⟩ := h
    obtain ⟨s, hs, _⟩ := shape_row hsh
    have key : ∀ {Q : Stt → Prop}, Q s → ∀ s', zs = numRow s' → Q s' := fun {Q} hq s' h' => by rw [← numRow_inj (hs.symm.trans h')]; exact hq
    cases h1 : pairsB s.p with
    | false => exact specNumbersState_row1 A n cap zs w hS hn hc p q hsh (key (Q := fun s => pairsB s.p = false) h1)
    | true =>
      cases h2 : jobsB s.q with
      | false => exact specNumbersState_row2 A n cap zs w hS hn hc p q hsh (key (Q := fun s => pairsB s.p = true ∧ jobsB s.q = false) ⟨h1, h2⟩)
      | true =>
        cases h3 : leaseB s.h s.e s.u with
        | false => exact specNumbersState_row3 A n cap zs w hS hn hc p q hsh (key (Q := fun s => pairsB s.p = true ∧ jobsB s.q = true ∧ leaseB s.h s.e s.u = false) ⟨h1, h2, h3⟩)
        | true =>
          cases h4 : stOk s with
          | false => exact specNumbersState_row4 A n cap zs w hS hn hc p q hsh (key (Q := fun s => pairsB s.p = true ∧ jobsB s.q = true ∧ leaseB s.h s.e s.u = true ∧ stOk s = false) ⟨h1, h2, h3, h4⟩)
          | true => exact specNumbersState_row5 A n cap zs w hS hn hc p q hsh (key (Q := fun s => pairsB s.p = true ∧ jobsB s.q = true ∧ leaseB s.h s.e s.u = true ∧ stOk s = true) ⟨h1, h2, h3, h4⟩)
  · exact specNumbersState_nil A n cap zs w hS hn (fun p q hsh => h ⟨p, q, hsh⟩)
end Go.Proofs.Ytodkcanhlpgpgaa

/- The law's own helpers on Client: sz, to, eq, mark, held. -/
import Derived.Test.YtckbnfgdjdppfaaSWant
import Derived.Test.YtckbnfgdjdppfaaSGot
import Derived.Test.YtckbnfgdjdppfaaBk
namespace Go.Proofs.Ytckbnfgdjdppfaa
set_option linter.unusedSimpArgs false
set_option linter.unusedVariables false
attribute [local go_sem] n_lt2 n_lt3 n_lt4 n_le2 n_le3
open Go.RowKit
attribute [local go_sem] Ext.cell Ext.frozen

/-- What a call that hands back a Client leaves: its two slices are rows of its own. -/
def RetClient (w : World) (i0 t0 : Int) (n : Nat) (zp : List Int) (m : Nat) (zq : List Int) (en : Ending) (w' : World) : Prop :=
  ∃ A c B d, en = .returned (.agg #[.int .i64 i0, .slice A n c, .slice B m d, .int .i64 t0]) ∧ Row w' w.heap.size 45 7 A n c zp ∧ Row w' w.heap.size 75 4 B m d zq ∧ (∀ a b, A = some a → B = some b → a.block ≠ b.block) ∧ Below w.heap.size w w'
end Go.Proofs.Ytckbnfgdjdppfaa

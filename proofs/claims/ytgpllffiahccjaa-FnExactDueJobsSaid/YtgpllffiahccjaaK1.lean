/- slices.SortFunc and what it calls: the shelf's layings at this program. -/
import Derived.Test.YtgpllffiahccjaaA1
import Derived.Test.YtgpllffiahccjaaMem

import Derived.Shelf.SlSortCmp.SmallK
import Derived.Shelf.Small.Bits
import Derived.Shelf.Lay
import Derived.Ground.SlsfProg
import Derived.Ground.NamesProg
namespace Go.Proofs.Ytgpllffiahccjaa
set_option linter.unusedSimpArgs false
set_option linter.unusedVariables false
attribute [local go_sem] n_lt2 n_lt3 n_lt4 n_le2 n_le3
open Go.Shelf Go.RowKit Go.Lib Go.Sort
shelf_lay_g SlLaysF0.n6 Slsf 6 at Try 124 as sortJob
shelf_lay_g SlLaysF0.n6 Slsf 6 at Try 118 as sortDue
shelf_lay Lays.n125 Nm 125 at Try as bitsLen
theorem hlenX (n : Nat) (W : World) (h : n ≤ 12) : Calls Try.prog 147 #[.int .u64 n] W fun e w' => (∃ l : Int, e = .returned (.int .i64 l)) ∧ w' = W :=
  (Any.bits_Len bitsLen n W (by omega) (by omega)).mono fun _ _ ⟨he, hw⟩ => ⟨⟨_, he⟩, hw⟩
end Go.Proofs.Ytgpllffiahccjaa

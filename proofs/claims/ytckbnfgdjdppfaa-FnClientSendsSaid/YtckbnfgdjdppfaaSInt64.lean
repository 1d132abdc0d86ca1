/- The law's own helpers on slices of Int64: sz, to, eq, mark, held. -/
import Derived.Test.YtckbnfgdjdppfaaA1
import Derived.Test.YtckbnfgdjdppfaaMem
namespace Go.Proofs.Ytckbnfgdjdppfaa
set_option linter.unusedSimpArgs false
set_option linter.unusedVariables false
attribute [local go_sem] n_lt2 n_lt3 n_lt4 n_le2 n_le3
open Go.RowKit
attribute [local go_sem] Ext.cell Ext.frozen


theorem info_Int64 : (Try.prog.info? 2).map (fun i => (i.zero, i.size, i.bytes)) = some (some (.int .i64 0), 1, 8) := by kernel_rfl




end Go.Proofs.Ytckbnfgdjdppfaa

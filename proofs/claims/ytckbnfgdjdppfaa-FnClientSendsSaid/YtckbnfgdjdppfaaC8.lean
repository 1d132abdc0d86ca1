/- Clients: copies: l13Copy of the copying function. -/
import Derived.Test.YtckbnfgdjdppfaaC6
namespace Go.Proofs.Ytckbnfgdjdppfaa
set_option linter.unusedSimpArgs false
set_option linter.unusedVariables false
attribute [local go_sem] n_lt2 n_lt3 n_lt4 n_le2 n_le3
open Go.RowKit
attribute [local go_sem] Ext.cell Ext.frozen
end Go.Proofs.Ytckbnfgdjdppfaa

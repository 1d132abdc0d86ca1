/-
  No cell of these rows narrows 'for every input' (looked for: loops, veiled, ifaces, maps, wideKeys, modest, calm, conditions, laid).
  DERIVED. THE GIVEN ROWS OF THIS SEAT. 11 by the template 'for every input the law returns true; each argument reads behind the call as it read before'; 0 by the template 'total and deterministic' (their statements: YtbcpcddmekoaeaaTotals.lean).
  GIVEN WITH THE SEED: the statements are not yours to turn. If you find one false, say at which input.
  Laid BY PROGRAM, IN A SANDBOX (cutbox-rows.mjs): the forced cells as the released guide's own fill.sh prints them over the translation d72e4979b4720847… (all of the seat's roots in one cut). By AI agents, Wed Nov 11 2026. No macro, syntax, notation, axiom, sorry.
-/
import Derived.Test.YtbcpcddmekoaeaaChecked
import GoSem.Claim
import GoSem.ClaimJoined
import GoSem.ClaimMapViews
import Derived.JoinedTies
import Derived.KernelRfl
namespace Go.Proofs.Ytbcpcddmekoaeaa
/- THE CELL 'sum', in the pinned program and in every row, IS THE sha256 OF THE DUMP (.gsa) THAT YtbcpcddmekoaeaaProg.lean LOADS. Nothing in Lean hashes anything: it is a label: what it is worth is what the hold of that sum in a sandbox is worth. -/
noncomputable def Try.pinned : Pinned := { name := "ytbcpcddmekoaeaa", sum := "d72e4979b47208477879ee6115afe3aa3e72f75c360a9ccf408cb114b6ef2350", checked := Try.checked }
namespace Rows
def none {H : Type} : Left H := { results := [], args := [] }

/-- 'laws.FnExactSameClient': WHATEVER THE INPUT: true; the input reads as it did. -/
def fnExactSameClientSpec : ChangeSpec := { name := "fnExactSameClient", fn := fun _ => fun
  | [d1, d2] => { results := [.lit (.bool true)], args := [d1, d2] }
  | _ => none }
def fnExactSameClientRow : OpenClaim := { program := "ytbcpcddmekoaeaa", sum := "d72e4979b47208477879ee6115afe3aa3e72f75c360a9ccf408cb114b6ef2350", func := "loop.example/g00851/laws.FnExactSameClient", spec := "fnExactSameClient", apart := false }
def FnExactSameClientSaid : Prop := fnExactSameClientRow.holds Try.pinned (OpenSpec.ofChange fnExactSameClientSpec)

/-- ITS FALSE NEIGHBOUR: 'it returns false'. Refute it at one input. -/
def fnExactSameClientWrong : ChangeSpec := { name := "fnExactSameClient", fn := fun _ => fun
  | [d1, d2] => { results := [.lit (.bool false)], args := [d1, d2] }
  | _ => none }
def FnExactSameClientWrongFalsely : Prop := fnExactSameClientRow.holds Try.pinned (OpenSpec.ofChange fnExactSameClientWrong)

/-- 'laws.FnExactClientOk': WHATEVER THE INPUT: true; the input reads as it did. -/
def fnExactClientOkSpec : ChangeSpec := { name := "fnExactClientOk", fn := fun _ => fun
  | [d] => { results := [.lit (.bool true)], args := [d] }
  | _ => none }
def fnExactClientOkRow : OpenClaim := { program := "ytbcpcddmekoaeaa", sum := "d72e4979b47208477879ee6115afe3aa3e72f75c360a9ccf408cb114b6ef2350", func := "loop.example/g00851/laws.FnExactClientOk", spec := "fnExactClientOk", apart := false }
def FnExactClientOkSaid : Prop := fnExactClientOkRow.holds Try.pinned (OpenSpec.ofChange fnExactClientOkSpec)

/-- ITS FALSE NEIGHBOUR: 'it returns false'. Refute it at one input. -/
def fnExactClientOkWrong : ChangeSpec := { name := "fnExactClientOk", fn := fun _ => fun
  | [d] => { results := [.lit (.bool false)], args := [d] }
  | _ => none }
def FnExactClientOkWrongFalsely : Prop := fnExactClientOkRow.holds Try.pinned (OpenSpec.ofChange fnExactClientOkWrong)

/-- 'laws.FnExactAllDone': WHATEVER THE INPUT: true; the input reads as it did. -/
def fnExactAllDoneSpec : ChangeSpec := { name := "fnExactAllDone", fn := fun _ => fun
  | [d] => { results := [.lit (.bool true)], args := [d] }
  | _ => none }
def fnExactAllDoneRow : OpenClaim := { program := "ytbcpcddmekoaeaa", sum := "d72e4979b47208477879ee6115afe3aa3e72f75c360a9ccf408cb114b6ef2350", func := "loop.example/g00851/laws.FnExactAllDone", spec := "fnExactAllDone", apart := false }
def FnExactAllDoneSaid : Prop := fnExactAllDoneRow.holds Try.pinned (OpenSpec.ofChange fnExactAllDoneSpec)

/-- ITS FALSE NEIGHBOUR: 'it returns false'. Refute it at one input. -/
def fnExactAllDoneWrong : ChangeSpec := { name := "fnExactAllDone", fn := fun _ => fun
  | [d] => { results := [.lit (.bool false)], args := [d] }
  | _ => none }
def FnExactAllDoneWrongFalsely : Prop := fnExactAllDoneRow.holds Try.pinned (OpenSpec.ofChange fnExactAllDoneWrong)

/-- 'laws.FnExactNextSeq': WHATEVER THE INPUT: true; the input reads as it did. -/
def fnExactNextSeqSpec : ChangeSpec := { name := "fnExactNextSeq", fn := fun _ => fun
  | [d] => { results := [.lit (.bool true)], args := [d] }
  | _ => none }
def fnExactNextSeqRow : OpenClaim := { program := "ytbcpcddmekoaeaa", sum := "d72e4979b47208477879ee6115afe3aa3e72f75c360a9ccf408cb114b6ef2350", func := "loop.example/g00851/laws.FnExactNextSeq", spec := "fnExactNextSeq", apart := false }
def FnExactNextSeqSaid : Prop := fnExactNextSeqRow.holds Try.pinned (OpenSpec.ofChange fnExactNextSeqSpec)

/-- ITS FALSE NEIGHBOUR: 'it returns false'. Refute it at one input. -/
def fnExactNextSeqWrong : ChangeSpec := { name := "fnExactNextSeq", fn := fun _ => fun
  | [d] => { results := [.lit (.bool false)], args := [d] }
  | _ => none }
def FnExactNextSeqWrongFalsely : Prop := fnExactNextSeqRow.holds Try.pinned (OpenSpec.ofChange fnExactNextSeqWrong)

/-- 'laws.FnExactNewClient': WHATEVER THE INPUT: true; the input reads as it did. -/
def fnExactNewClientSpec : ChangeSpec := { name := "fnExactNewClient", fn := fun _ => fun
  | [d1, d2] => { results := [.lit (.bool true)], args := [d1, d2] }
  | _ => none }
def fnExactNewClientRow : OpenClaim := { program := "ytbcpcddmekoaeaa", sum := "d72e4979b47208477879ee6115afe3aa3e72f75c360a9ccf408cb114b6ef2350", func := "loop.example/g00851/laws.FnExactNewClient", spec := "fnExactNewClient", apart := false }
def FnExactNewClientSaid : Prop := fnExactNewClientRow.holds Try.pinned (OpenSpec.ofChange fnExactNewClientSpec)

/-- ITS FALSE NEIGHBOUR: 'it returns false'. Refute it at one input. -/
def fnExactNewClientWrong : ChangeSpec := { name := "fnExactNewClient", fn := fun _ => fun
  | [d1, d2] => { results := [.lit (.bool false)], args := [d1, d2] }
  | _ => none }
def FnExactNewClientWrongFalsely : Prop := fnExactNewClientRow.holds Try.pinned (OpenSpec.ofChange fnExactNewClientWrong)

/-- 'laws.FnExactAcksOf': WHATEVER THE INPUT: true; the input reads as it did. -/
def fnExactAcksOfSpec : ChangeSpec := { name := "fnExactAcksOf", fn := fun _ => fun
  | [d] => { results := [.lit (.bool true)], args := [d] }
  | _ => none }
def fnExactAcksOfRow : OpenClaim := { program := "ytbcpcddmekoaeaa", sum := "d72e4979b47208477879ee6115afe3aa3e72f75c360a9ccf408cb114b6ef2350", func := "loop.example/g00851/laws.FnExactAcksOf", spec := "fnExactAcksOf", apart := false }
def FnExactAcksOfSaid : Prop := fnExactAcksOfRow.holds Try.pinned (OpenSpec.ofChange fnExactAcksOfSpec)

/-- ITS FALSE NEIGHBOUR: 'it returns false'. Refute it at one input. -/
def fnExactAcksOfWrong : ChangeSpec := { name := "fnExactAcksOf", fn := fun _ => fun
  | [d] => { results := [.lit (.bool false)], args := [d] }
  | _ => none }
def FnExactAcksOfWrongFalsely : Prop := fnExactAcksOfRow.holds Try.pinned (OpenSpec.ofChange fnExactAcksOfWrong)

/-- 'laws.FnExactHeardValue': WHATEVER THE INPUT: true; the input reads as it did. -/
def fnExactHeardValueSpec : ChangeSpec := { name := "fnExactHeardValue", fn := fun _ => fun
  | [d1, d2] => { results := [.lit (.bool true)], args := [d1, d2] }
  | _ => none }
def fnExactHeardValueRow : OpenClaim := { program := "ytbcpcddmekoaeaa", sum := "d72e4979b47208477879ee6115afe3aa3e72f75c360a9ccf408cb114b6ef2350", func := "loop.example/g00851/laws.FnExactHeardValue", spec := "fnExactHeardValue", apart := false }
def FnExactHeardValueSaid : Prop := fnExactHeardValueRow.holds Try.pinned (OpenSpec.ofChange fnExactHeardValueSpec)

/-- ITS FALSE NEIGHBOUR: 'it returns false'. Refute it at one input. -/
def fnExactHeardValueWrong : ChangeSpec := { name := "fnExactHeardValue", fn := fun _ => fun
  | [d1, d2] => { results := [.lit (.bool false)], args := [d1, d2] }
  | _ => none }
def FnExactHeardValueWrongFalsely : Prop := fnExactHeardValueRow.holds Try.pinned (OpenSpec.ofChange fnExactHeardValueWrong)

/-- 'laws.FnExactHeardAck': WHATEVER THE INPUT: true; the input reads as it did. -/
def fnExactHeardAckSpec : ChangeSpec := { name := "fnExactHeardAck", fn := fun _ => fun
  | [d1, d2] => { results := [.lit (.bool true)], args := [d1, d2] }
  | _ => none }
def fnExactHeardAckRow : OpenClaim := { program := "ytbcpcddmekoaeaa", sum := "d72e4979b47208477879ee6115afe3aa3e72f75c360a9ccf408cb114b6ef2350", func := "loop.example/g00851/laws.FnExactHeardAck", spec := "fnExactHeardAck", apart := false }
def FnExactHeardAckSaid : Prop := fnExactHeardAckRow.holds Try.pinned (OpenSpec.ofChange fnExactHeardAckSpec)

/-- ITS FALSE NEIGHBOUR: 'it returns false'. Refute it at one input. -/
def fnExactHeardAckWrong : ChangeSpec := { name := "fnExactHeardAck", fn := fun _ => fun
  | [d1, d2] => { results := [.lit (.bool false)], args := [d1, d2] }
  | _ => none }
def FnExactHeardAckWrongFalsely : Prop := fnExactHeardAckRow.holds Try.pinned (OpenSpec.ofChange fnExactHeardAckWrong)

/-- 'laws.FnExactSendOf': WHATEVER THE INPUT: true; the input reads as it did. -/
def fnExactSendOfSpec : ChangeSpec := { name := "fnExactSendOf", fn := fun _ => fun
  | [d] => { results := [.lit (.bool true)], args := [d] }
  | _ => none }
def fnExactSendOfRow : OpenClaim := { program := "ytbcpcddmekoaeaa", sum := "d72e4979b47208477879ee6115afe3aa3e72f75c360a9ccf408cb114b6ef2350", func := "loop.example/g00851/laws.FnExactSendOf", spec := "fnExactSendOf", unfollowed := true, recurses := true, apart := false }
def FnExactSendOfSaid : Prop := fnExactSendOfRow.holds Try.pinned (OpenSpec.ofChange fnExactSendOfSpec)

/-- ITS FALSE NEIGHBOUR: 'it returns false'. Refute it at one input. -/
def fnExactSendOfWrong : ChangeSpec := { name := "fnExactSendOf", fn := fun _ => fun
  | [d] => { results := [.lit (.bool false)], args := [d] }
  | _ => none }
def FnExactSendOfWrongFalsely : Prop := fnExactSendOfRow.holds Try.pinned (OpenSpec.ofChange fnExactSendOfWrong)

/-- 'laws.FnClientOnce': WHATEVER THE INPUT: true; the input reads as it did. -/
def fnClientOnceSpec : ChangeSpec := { name := "fnClientOnce", fn := fun _ => fun
  | [d] => { results := [.lit (.bool true)], args := [d] }
  | _ => none }
def fnClientOnceRow : OpenClaim := { program := "ytbcpcddmekoaeaa", sum := "d72e4979b47208477879ee6115afe3aa3e72f75c360a9ccf408cb114b6ef2350", func := "loop.example/g00851/laws.FnClientOnce", spec := "fnClientOnce", apart := false }
def FnClientOnceSaid : Prop := fnClientOnceRow.holds Try.pinned (OpenSpec.ofChange fnClientOnceSpec)

/-- ITS FALSE NEIGHBOUR: 'it returns false'. Refute it at one input. -/
def fnClientOnceWrong : ChangeSpec := { name := "fnClientOnce", fn := fun _ => fun
  | [d] => { results := [.lit (.bool false)], args := [d] }
  | _ => none }
def FnClientOnceWrongFalsely : Prop := fnClientOnceRow.holds Try.pinned (OpenSpec.ofChange fnClientOnceWrong)

/-- 'laws.FnClientSends': WHATEVER THE INPUT: true; the input reads as it did. -/
def fnClientSendsSpec : ChangeSpec := { name := "fnClientSends", fn := fun _ => fun
  | [d] => { results := [.lit (.bool true)], args := [d] }
  | _ => none }
def fnClientSendsRow : OpenClaim := { program := "ytbcpcddmekoaeaa", sum := "d72e4979b47208477879ee6115afe3aa3e72f75c360a9ccf408cb114b6ef2350", func := "loop.example/g00851/laws.FnClientSends", spec := "fnClientSends", unfollowed := true, recurses := true, apart := false }
def FnClientSendsSaid : Prop := fnClientSendsRow.holds Try.pinned (OpenSpec.ofChange fnClientSendsSpec)

/-- ITS FALSE NEIGHBOUR: 'it returns false'. Refute it at one input. -/
def fnClientSendsWrong : ChangeSpec := { name := "fnClientSends", fn := fun _ => fun
  | [d] => { results := [.lit (.bool false)], args := [d] }
  | _ => none }
def FnClientSendsWrongFalsely : Prop := fnClientSendsRow.holds Try.pinned (OpenSpec.ofChange fnClientSendsWrong)

/- THE SECOND FORM. 'bulk': how many values and letters a reading holds, each counted each time it is reached (what is shared counts as often as it is met; a slice's spare places count too). A statement '..UptoSaid' is the law's where the arguments, and the package variables that the reading takes, are together of bulk at most 1048576: NARROWER than '..Said'. Prove '..Said' where nothing that the law and all that it calls make is longer than what came in: it says more and counts as full. Else prove '..UptoSaid'. A law counts once. -/
mutual
def uptoBulk {H : Type} : DataW H → Nat
  | .lit (.string bytes) => bytes.length + 1
  | .lit _ => 1
  | .nil => 1
  | .ptr d => uptoBulk d + 1
  | .slice elems spare => uptoBulkAll elems + uptoBulkAll spare + 1
  | .agg parts => uptoBulkAll parts + 1
  | .iface _ d => uptoBulk d + 1
  | .map entries => uptoBulkEntries entries + 1
  | .held _ => 1
def uptoBulkAll {H : Type} : List (DataW H) → Nat
  | [] => 0
  | d :: r => uptoBulk d + uptoBulkAll r
def uptoBulkEntries {H : Type} : List (Lit × DataW H) → Nat
  | [] => 0
  | x :: r => uptoBulkEntry x + uptoBulkEntries r
def uptoBulkEntry {H : Type} : Lit × DataW H → Nat
  | (.string bytes, d) => bytes.length + uptoBulk d + 1
  | (_, d) => uptoBulk d + 1
 end
def uptoSmall : (H : Type) → List (DataW H) → Bool := fun _ ds => decide (uptoBulkAll ds ≤ 1048576)
def OpenSpec.upto (s : _root_.Go.ChangeSpec) : _root_.Go.OpenSpec := { _root_.Go.OpenSpec.ofChange s with cond := some uptoSmall }

/-- 'laws.FnExactSameClient', WHERE WHAT IT READS IS OF BULK AT MOST 1048576: true; the input reads as it did. -/
def fnExactSameClientUptoRow : OpenClaim := { program := "ytbcpcddmekoaeaa", sum := "d72e4979b47208477879ee6115afe3aa3e72f75c360a9ccf408cb114b6ef2350", func := "loop.example/g00851/laws.FnExactSameClient", spec := "fnExactSameClient", apart := false, narrowed := true }
def FnExactSameClientUptoSaid : Prop := fnExactSameClientUptoRow.holds Try.pinned (OpenSpec.upto fnExactSameClientSpec)

/-- 'laws.FnExactClientOk', WHERE WHAT IT READS IS OF BULK AT MOST 1048576: true; the input reads as it did. -/
def fnExactClientOkUptoRow : OpenClaim := { program := "ytbcpcddmekoaeaa", sum := "d72e4979b47208477879ee6115afe3aa3e72f75c360a9ccf408cb114b6ef2350", func := "loop.example/g00851/laws.FnExactClientOk", spec := "fnExactClientOk", apart := false, narrowed := true }
def FnExactClientOkUptoSaid : Prop := fnExactClientOkUptoRow.holds Try.pinned (OpenSpec.upto fnExactClientOkSpec)

/-- 'laws.FnExactAllDone', WHERE WHAT IT READS IS OF BULK AT MOST 1048576: true; the input reads as it did. -/
def fnExactAllDoneUptoRow : OpenClaim := { program := "ytbcpcddmekoaeaa", sum := "d72e4979b47208477879ee6115afe3aa3e72f75c360a9ccf408cb114b6ef2350", func := "loop.example/g00851/laws.FnExactAllDone", spec := "fnExactAllDone", apart := false, narrowed := true }
def FnExactAllDoneUptoSaid : Prop := fnExactAllDoneUptoRow.holds Try.pinned (OpenSpec.upto fnExactAllDoneSpec)

/-- 'laws.FnExactNextSeq', WHERE WHAT IT READS IS OF BULK AT MOST 1048576: true; the input reads as it did. -/
def fnExactNextSeqUptoRow : OpenClaim := { program := "ytbcpcddmekoaeaa", sum := "d72e4979b47208477879ee6115afe3aa3e72f75c360a9ccf408cb114b6ef2350", func := "loop.example/g00851/laws.FnExactNextSeq", spec := "fnExactNextSeq", apart := false, narrowed := true }
def FnExactNextSeqUptoSaid : Prop := fnExactNextSeqUptoRow.holds Try.pinned (OpenSpec.upto fnExactNextSeqSpec)

/-- 'laws.FnExactNewClient', WHERE WHAT IT READS IS OF BULK AT MOST 1048576: true; the input reads as it did. -/
def fnExactNewClientUptoRow : OpenClaim := { program := "ytbcpcddmekoaeaa", sum := "d72e4979b47208477879ee6115afe3aa3e72f75c360a9ccf408cb114b6ef2350", func := "loop.example/g00851/laws.FnExactNewClient", spec := "fnExactNewClient", apart := false, narrowed := true }
def FnExactNewClientUptoSaid : Prop := fnExactNewClientUptoRow.holds Try.pinned (OpenSpec.upto fnExactNewClientSpec)

/-- 'laws.FnExactAcksOf', WHERE WHAT IT READS IS OF BULK AT MOST 1048576: true; the input reads as it did. -/
def fnExactAcksOfUptoRow : OpenClaim := { program := "ytbcpcddmekoaeaa", sum := "d72e4979b47208477879ee6115afe3aa3e72f75c360a9ccf408cb114b6ef2350", func := "loop.example/g00851/laws.FnExactAcksOf", spec := "fnExactAcksOf", apart := false, narrowed := true }
def FnExactAcksOfUptoSaid : Prop := fnExactAcksOfUptoRow.holds Try.pinned (OpenSpec.upto fnExactAcksOfSpec)

/-- 'laws.FnExactHeardValue', WHERE WHAT IT READS IS OF BULK AT MOST 1048576: true; the input reads as it did. -/
def fnExactHeardValueUptoRow : OpenClaim := { program := "ytbcpcddmekoaeaa", sum := "d72e4979b47208477879ee6115afe3aa3e72f75c360a9ccf408cb114b6ef2350", func := "loop.example/g00851/laws.FnExactHeardValue", spec := "fnExactHeardValue", apart := false, narrowed := true }
def FnExactHeardValueUptoSaid : Prop := fnExactHeardValueUptoRow.holds Try.pinned (OpenSpec.upto fnExactHeardValueSpec)

/-- 'laws.FnExactHeardAck', WHERE WHAT IT READS IS OF BULK AT MOST 1048576: true; the input reads as it did. -/
def fnExactHeardAckUptoRow : OpenClaim := { program := "ytbcpcddmekoaeaa", sum := "d72e4979b47208477879ee6115afe3aa3e72f75c360a9ccf408cb114b6ef2350", func := "loop.example/g00851/laws.FnExactHeardAck", spec := "fnExactHeardAck", apart := false, narrowed := true }
def FnExactHeardAckUptoSaid : Prop := fnExactHeardAckUptoRow.holds Try.pinned (OpenSpec.upto fnExactHeardAckSpec)

/-- 'laws.FnExactSendOf', WHERE WHAT IT READS IS OF BULK AT MOST 1048576: true; the input reads as it did. -/
def fnExactSendOfUptoRow : OpenClaim := { program := "ytbcpcddmekoaeaa", sum := "d72e4979b47208477879ee6115afe3aa3e72f75c360a9ccf408cb114b6ef2350", func := "loop.example/g00851/laws.FnExactSendOf", spec := "fnExactSendOf", unfollowed := true, recurses := true, apart := false, narrowed := true }
def FnExactSendOfUptoSaid : Prop := fnExactSendOfUptoRow.holds Try.pinned (OpenSpec.upto fnExactSendOfSpec)

/-- 'laws.FnClientOnce', WHERE WHAT IT READS IS OF BULK AT MOST 1048576: true; the input reads as it did. -/
def fnClientOnceUptoRow : OpenClaim := { program := "ytbcpcddmekoaeaa", sum := "d72e4979b47208477879ee6115afe3aa3e72f75c360a9ccf408cb114b6ef2350", func := "loop.example/g00851/laws.FnClientOnce", spec := "fnClientOnce", apart := false, narrowed := true }
def FnClientOnceUptoSaid : Prop := fnClientOnceUptoRow.holds Try.pinned (OpenSpec.upto fnClientOnceSpec)

/-- 'laws.FnClientSends', WHERE WHAT IT READS IS OF BULK AT MOST 1048576: true; the input reads as it did. -/
def fnClientSendsUptoRow : OpenClaim := { program := "ytbcpcddmekoaeaa", sum := "d72e4979b47208477879ee6115afe3aa3e72f75c360a9ccf408cb114b6ef2350", func := "loop.example/g00851/laws.FnClientSends", spec := "fnClientSends", unfollowed := true, recurses := true, apart := false, narrowed := true }
def FnClientSendsUptoSaid : Prop := fnClientSendsUptoRow.holds Try.pinned (OpenSpec.upto fnClientSendsSpec)

end Rows
end Go.Proofs.Ytbcpcddmekoaeaa

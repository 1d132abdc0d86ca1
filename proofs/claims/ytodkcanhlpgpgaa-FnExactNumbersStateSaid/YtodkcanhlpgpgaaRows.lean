/-
  No cell of these rows narrows 'for every input' (looked for: loops, veiled, ifaces, maps, wideKeys, modest, calm, conditions, laid).
  DERIVED. THE GIVEN ROWS OF THIS SEAT. 7 by the template 'for every input the law returns true; each argument reads behind the call as it read before'; 0 by the template 'total and deterministic' (their statements: YtodkcanhlpgpgaaTotals.lean).
  GIVEN WITH THE SEED: the statements are not yours to turn. If you find one false, say at which input.
  Laid BY PROGRAM, IN A SANDBOX (cutbox-rows.mjs): the forced cells as the released guide's own fill.sh prints them over the translation e219b7c5efc06aed… (all of the seat's roots in one cut). By AI agents, Wed Nov 11 2026. No macro, syntax, notation, axiom, sorry.
-/
import Derived.Test.YtodkcanhlpgpgaaChecked
import GoSem.Claim
import GoSem.ClaimJoined
import GoSem.ClaimMapViews
import Derived.JoinedTies
import Derived.KernelRfl
namespace Go.Proofs.Ytodkcanhlpgpgaa
/- THE CELL 'sum', in the pinned program and in every row, IS THE sha256 OF THE DUMP (.gsa) THAT YtodkcanhlpgpgaaProg.lean LOADS. Nothing in Lean hashes anything: it is a label: what it is worth is what the hold of that sum in a sandbox is worth. -/
noncomputable def Try.pinned : Pinned := { name := "ytodkcanhlpgpgaa", sum := "e219b7c5efc06aed431d086b4ef85f033b2bcad2f8bb33c4dcf79724d5ac98bb", checked := Try.checked }
namespace Rows
def none {H : Type} : Left H := { results := [], args := [] }

/-- 'laws.FnExactStateOk': WHATEVER THE INPUT: true; the input reads as it did. -/
def fnExactStateOkSpec : ChangeSpec := { name := "fnExactStateOk", fn := fun _ => fun
  | [d] => { results := [.lit (.bool true)], args := [d] }
  | _ => none }
def fnExactStateOkRow : OpenClaim := { program := "ytodkcanhlpgpgaa", sum := "e219b7c5efc06aed431d086b4ef85f033b2bcad2f8bb33c4dcf79724d5ac98bb", func := "loop.example/g00851/laws.FnExactStateOk", spec := "fnExactStateOk", apart := false }
def FnExactStateOkSaid : Prop := fnExactStateOkRow.holds Try.pinned (OpenSpec.ofChange fnExactStateOkSpec)

/-- ITS FALSE NEIGHBOUR: 'it returns false'. Refute it at one input. -/
def fnExactStateOkWrong : ChangeSpec := { name := "fnExactStateOk", fn := fun _ => fun
  | [d] => { results := [.lit (.bool false)], args := [d] }
  | _ => none }
def FnExactStateOkWrongFalsely : Prop := fnExactStateOkRow.holds Try.pinned (OpenSpec.ofChange fnExactStateOkWrong)

/-- 'laws.FnExactSameState': WHATEVER THE INPUT: true; the input reads as it did. -/
def fnExactSameStateSpec : ChangeSpec := { name := "fnExactSameState", fn := fun _ => fun
  | [d1, d2] => { results := [.lit (.bool true)], args := [d1, d2] }
  | _ => none }
def fnExactSameStateRow : OpenClaim := { program := "ytodkcanhlpgpgaa", sum := "e219b7c5efc06aed431d086b4ef85f033b2bcad2f8bb33c4dcf79724d5ac98bb", func := "loop.example/g00851/laws.FnExactSameState", spec := "fnExactSameState", apart := false }
def FnExactSameStateSaid : Prop := fnExactSameStateRow.holds Try.pinned (OpenSpec.ofChange fnExactSameStateSpec)

/-- ITS FALSE NEIGHBOUR: 'it returns false'. Refute it at one input. -/
def fnExactSameStateWrong : ChangeSpec := { name := "fnExactSameState", fn := fun _ => fun
  | [d1, d2] => { results := [.lit (.bool false)], args := [d1, d2] }
  | _ => none }
def FnExactSameStateWrongFalsely : Prop := fnExactSameStateRow.holds Try.pinned (OpenSpec.ofChange fnExactSameStateWrong)

/-- 'laws.FnExactNextIn': WHATEVER THE INPUT: true; the input reads as it did. -/
def fnExactNextInSpec : ChangeSpec := { name := "fnExactNextIn", fn := fun _ => fun
  | [d1, d2] => { results := [.lit (.bool true)], args := [d1, d2] }
  | _ => none }
def fnExactNextInRow : OpenClaim := { program := "ytodkcanhlpgpgaa", sum := "e219b7c5efc06aed431d086b4ef85f033b2bcad2f8bb33c4dcf79724d5ac98bb", func := "loop.example/g00851/laws.FnExactNextIn", spec := "fnExactNextIn", apart := false }
def FnExactNextInSaid : Prop := fnExactNextInRow.holds Try.pinned (OpenSpec.ofChange fnExactNextInSpec)

/-- ITS FALSE NEIGHBOUR: 'it returns false'. Refute it at one input. -/
def fnExactNextInWrong : ChangeSpec := { name := "fnExactNextIn", fn := fun _ => fun
  | [d1, d2] => { results := [.lit (.bool false)], args := [d1, d2] }
  | _ => none }
def FnExactNextInWrongFalsely : Prop := fnExactNextInRow.holds Try.pinned (OpenSpec.ofChange fnExactNextInWrong)

/-- 'laws.FnExactFiresIn': WHATEVER THE INPUT: true; the input reads as it did. -/
def fnExactFiresInSpec : ChangeSpec := { name := "fnExactFiresIn", fn := fun _ => fun
  | [d1, d2] => { results := [.lit (.bool true)], args := [d1, d2] }
  | _ => none }
def fnExactFiresInRow : OpenClaim := { program := "ytodkcanhlpgpgaa", sum := "e219b7c5efc06aed431d086b4ef85f033b2bcad2f8bb33c4dcf79724d5ac98bb", func := "loop.example/g00851/laws.FnExactFiresIn", spec := "fnExactFiresIn", unfollowed := true, recurses := true, apart := false }
def FnExactFiresInSaid : Prop := fnExactFiresInRow.holds Try.pinned (OpenSpec.ofChange fnExactFiresInSpec)

/-- ITS FALSE NEIGHBOUR: 'it returns false'. Refute it at one input. -/
def fnExactFiresInWrong : ChangeSpec := { name := "fnExactFiresIn", fn := fun _ => fun
  | [d1, d2] => { results := [.lit (.bool false)], args := [d1, d2] }
  | _ => none }
def FnExactFiresInWrongFalsely : Prop := fnExactFiresInRow.holds Try.pinned (OpenSpec.ofChange fnExactFiresInWrong)

/-- 'laws.FnExactStateNumbers': WHATEVER THE INPUT: true; the input reads as it did. -/
def fnExactStateNumbersSpec : ChangeSpec := { name := "fnExactStateNumbers", fn := fun _ => fun
  | [d] => { results := [.lit (.bool true)], args := [d] }
  | _ => none }
def fnExactStateNumbersRow : OpenClaim := { program := "ytodkcanhlpgpgaa", sum := "e219b7c5efc06aed431d086b4ef85f033b2bcad2f8bb33c4dcf79724d5ac98bb", func := "loop.example/g00851/laws.FnExactStateNumbers", spec := "fnExactStateNumbers", apart := false }
def FnExactStateNumbersSaid : Prop := fnExactStateNumbersRow.holds Try.pinned (OpenSpec.ofChange fnExactStateNumbersSpec)

/-- ITS FALSE NEIGHBOUR: 'it returns false'. Refute it at one input. -/
def fnExactStateNumbersWrong : ChangeSpec := { name := "fnExactStateNumbers", fn := fun _ => fun
  | [d] => { results := [.lit (.bool false)], args := [d] }
  | _ => none }
def FnExactStateNumbersWrongFalsely : Prop := fnExactStateNumbersRow.holds Try.pinned (OpenSpec.ofChange fnExactStateNumbersWrong)

/-- 'laws.FnExactNumbersState': WHATEVER THE INPUT: true; the input reads as it did. -/
def fnExactNumbersStateSpec : ChangeSpec := { name := "fnExactNumbersState", fn := fun _ => fun
  | [d] => { results := [.lit (.bool true)], args := [d] }
  | _ => none }
def fnExactNumbersStateRow : OpenClaim := { program := "ytodkcanhlpgpgaa", sum := "e219b7c5efc06aed431d086b4ef85f033b2bcad2f8bb33c4dcf79724d5ac98bb", func := "loop.example/g00851/laws.FnExactNumbersState", spec := "fnExactNumbersState", apart := false }
def FnExactNumbersStateSaid : Prop := fnExactNumbersStateRow.holds Try.pinned (OpenSpec.ofChange fnExactNumbersStateSpec)

/-- ITS FALSE NEIGHBOUR: 'it returns false'. Refute it at one input. -/
def fnExactNumbersStateWrong : ChangeSpec := { name := "fnExactNumbersState", fn := fun _ => fun
  | [d] => { results := [.lit (.bool false)], args := [d] }
  | _ => none }
def FnExactNumbersStateWrongFalsely : Prop := fnExactNumbersStateRow.holds Try.pinned (OpenSpec.ofChange fnExactNumbersStateWrong)

/-- 'laws.FnStateBack': WHATEVER THE INPUT: true; the input reads as it did. -/
def fnStateBackSpec : ChangeSpec := { name := "fnStateBack", fn := fun _ => fun
  | [d] => { results := [.lit (.bool true)], args := [d] }
  | _ => none }
def fnStateBackRow : OpenClaim := { program := "ytodkcanhlpgpgaa", sum := "e219b7c5efc06aed431d086b4ef85f033b2bcad2f8bb33c4dcf79724d5ac98bb", func := "loop.example/g00851/laws.FnStateBack", spec := "fnStateBack", apart := false }
def FnStateBackSaid : Prop := fnStateBackRow.holds Try.pinned (OpenSpec.ofChange fnStateBackSpec)

/-- ITS FALSE NEIGHBOUR: 'it returns false'. Refute it at one input. -/
def fnStateBackWrong : ChangeSpec := { name := "fnStateBack", fn := fun _ => fun
  | [d] => { results := [.lit (.bool false)], args := [d] }
  | _ => none }
def FnStateBackWrongFalsely : Prop := fnStateBackRow.holds Try.pinned (OpenSpec.ofChange fnStateBackWrong)

/- THE SECOND FORM. 'bulk': how many values and letters a reading holds, each counted each time it is reached (what is shared counts as often as it is met; a slice's spare places count too). A statement '..UptoSaid' is the law's where the arguments, and the package variables that the reading takes, are together of bulk at most 1048576: NARROWER than '..Said'. Prove '..Said' where nothing that the law and all that it calls make is longer than what came in: it says more and counts as full. Else prove '..UptoSaid'. A law counts once. -/
mutual
def uptoBulk {H : Type} : DataW H → Nat
  | .lit (.string bytes) => bytes.length + 1
  | .lit _ => 1
  | .nil => 1
  | .ptr d => uptoBulk d + 1
  | .slice elems spare => uptoBulkAll elems + uptoBulkAll spare + 1
  | .agg parts => uptoBulkAll parts + 1
  | .iface _ d => uptoBulk d + 1
  | .map entries => uptoBulkEntries entries + 1
  | .held _ => 1
def uptoBulkAll {H : Type} : List (DataW H) → Nat
  | [] => 0
  | d :: r => uptoBulk d + uptoBulkAll r
def uptoBulkEntries {H : Type} : List (Lit × DataW H) → Nat
  | [] => 0
  | x :: r => uptoBulkEntry x + uptoBulkEntries r
def uptoBulkEntry {H : Type} : Lit × DataW H → Nat
  | (.string bytes, d) => bytes.length + uptoBulk d + 1
  | (_, d) => uptoBulk d + 1
 end
def uptoSmall : (H : Type) → List (DataW H) → Bool := fun _ ds => decide (uptoBulkAll ds ≤ 1048576)
def OpenSpec.upto (s : _root_.Go.ChangeSpec) : _root_.Go.OpenSpec := { _root_.Go.OpenSpec.ofChange s with cond := some uptoSmall }

/-- 'laws.FnExactStateOk', WHERE WHAT IT READS IS OF BULK AT MOST 1048576: true; the input reads as it did. -/
def fnExactStateOkUptoRow : OpenClaim := { program := "ytodkcanhlpgpgaa", sum := "e219b7c5efc06aed431d086b4ef85f033b2bcad2f8bb33c4dcf79724d5ac98bb", func := "loop.example/g00851/laws.FnExactStateOk", spec := "fnExactStateOk", apart := false, narrowed := true }
def FnExactStateOkUptoSaid : Prop := fnExactStateOkUptoRow.holds Try.pinned (OpenSpec.upto fnExactStateOkSpec)

/-- 'laws.FnExactSameState', WHERE WHAT IT READS IS OF BULK AT MOST 1048576: true; the input reads as it did. -/
def fnExactSameStateUptoRow : OpenClaim := { program := "ytodkcanhlpgpgaa", sum := "e219b7c5efc06aed431d086b4ef85f033b2bcad2f8bb33c4dcf79724d5ac98bb", func := "loop.example/g00851/laws.FnExactSameState", spec := "fnExactSameState", apart := false, narrowed := true }
def FnExactSameStateUptoSaid : Prop := fnExactSameStateUptoRow.holds Try.pinned (OpenSpec.upto fnExactSameStateSpec)

/-- 'laws.FnExactNextIn', WHERE WHAT IT READS IS OF BULK AT MOST 1048576: true; the input reads as it did. -/
def fnExactNextInUptoRow : OpenClaim := { program := "ytodkcanhlpgpgaa", sum := "e219b7c5efc06aed431d086b4ef85f033b2bcad2f8bb33c4dcf79724d5ac98bb", func := "loop.example/g00851/laws.FnExactNextIn", spec := "fnExactNextIn", apart := false, narrowed := true }
def FnExactNextInUptoSaid : Prop := fnExactNextInUptoRow.holds Try.pinned (OpenSpec.upto fnExactNextInSpec)

/-- 'laws.FnExactFiresIn', WHERE WHAT IT READS IS OF BULK AT MOST 1048576: true; the input reads as it did. -/
def fnExactFiresInUptoRow : OpenClaim := { program := "ytodkcanhlpgpgaa", sum := "e219b7c5efc06aed431d086b4ef85f033b2bcad2f8bb33c4dcf79724d5ac98bb", func := "loop.example/g00851/laws.FnExactFiresIn", spec := "fnExactFiresIn", unfollowed := true, recurses := true, apart := false, narrowed := true }
def FnExactFiresInUptoSaid : Prop := fnExactFiresInUptoRow.holds Try.pinned (OpenSpec.upto fnExactFiresInSpec)

/-- 'laws.FnExactStateNumbers', WHERE WHAT IT READS IS OF BULK AT MOST 1048576: true; the input reads as it did. -/
def fnExactStateNumbersUptoRow : OpenClaim := { program := "ytodkcanhlpgpgaa", sum := "e219b7c5efc06aed431d086b4ef85f033b2bcad2f8bb33c4dcf79724d5ac98bb", func := "loop.example/g00851/laws.FnExactStateNumbers", spec := "fnExactStateNumbers", apart := false, narrowed := true }
def FnExactStateNumbersUptoSaid : Prop := fnExactStateNumbersUptoRow.holds Try.pinned (OpenSpec.upto fnExactStateNumbersSpec)

/-- 'laws.FnExactNumbersState', WHERE WHAT IT READS IS OF BULK AT MOST 1048576: true; the input reads as it did. -/
def fnExactNumbersStateUptoRow : OpenClaim := { program := "ytodkcanhlpgpgaa", sum := "e219b7c5efc06aed431d086b4ef85f033b2bcad2f8bb33c4dcf79724d5ac98bb", func := "loop.example/g00851/laws.FnExactNumbersState", spec := "fnExactNumbersState", apart := false, narrowed := true }
def FnExactNumbersStateUptoSaid : Prop := fnExactNumbersStateUptoRow.holds Try.pinned (OpenSpec.upto fnExactNumbersStateSpec)

/-- 'laws.FnStateBack', WHERE WHAT IT READS IS OF BULK AT MOST 1048576: true; the input reads as it did. -/
def fnStateBackUptoRow : OpenClaim := { program := "ytodkcanhlpgpgaa", sum := "e219b7c5efc06aed431d086b4ef85f033b2bcad2f8bb33c4dcf79724d5ac98bb", func := "loop.example/g00851/laws.FnStateBack", spec := "fnStateBack", apart := false, narrowed := true }
def FnStateBackUptoSaid : Prop := fnStateBackUptoRow.holds Try.pinned (OpenSpec.upto fnStateBackSpec)

end Rows
end Go.Proofs.Ytodkcanhlpgpgaa

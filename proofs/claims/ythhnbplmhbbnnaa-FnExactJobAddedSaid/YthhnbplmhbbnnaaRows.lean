/-
  No cell of these rows narrows 'for every input' (looked for: loops, veiled, ifaces, maps, wideKeys, modest, calm, conditions, laid).
  DERIVED. THE GIVEN ROWS OF THIS SEAT. 12 by the template 'for every input the law returns true; each argument reads behind the call as it read before'; 0 by the template 'total and deterministic' (their statements: YthhnbplmhbbnnaaTotals.lean).
  GIVEN WITH THE SEED: the statements are not yours to turn. If you find one false, say at which input.
  Laid BY PROGRAM, IN A SANDBOX (cutbox-rows.mjs): the forced cells as the released guide's own fill.sh prints them over the translation 4668807aa60a1563… (all of the seat's roots in one cut). By AI agents, Wed Nov 11 2026. No macro, syntax, notation, axiom, sorry.
-/
import Derived.Test.YthhnbplmhbbnnaaChecked
import GoSem.Claim
import GoSem.ClaimJoined
import GoSem.ClaimMapViews
import Derived.JoinedTies
import Derived.KernelRfl
namespace Go.Proofs.Ythhnbplmhbbnnaa
/- THE CELL 'sum', in the pinned program and in every row, IS THE sha256 OF THE DUMP (.gsa) THAT YthhnbplmhbbnnaaProg.lean LOADS. Nothing in Lean hashes anything: it is a label: what it is worth is what the hold of that sum in a sandbox is worth. -/
noncomputable def Try.pinned : Pinned := { name := "ythhnbplmhbbnnaa", sum := "4668807aa60a156348088ea67b2f533e781a268d0a8adaae25ee19d7d277903b", checked := Try.checked }
namespace Rows
def none {H : Type} : Left H := { results := [], args := [] }

/-- 'laws.FnExactCutOut': WHATEVER THE INPUT: true; the input reads as it did. -/
def fnExactCutOutSpec : ChangeSpec := { name := "fnExactCutOut", fn := fun _ => fun
  | [d1, d2] => { results := [.lit (.bool true)], args := [d1, d2] }
  | _ => none }
def fnExactCutOutRow : OpenClaim := { program := "ythhnbplmhbbnnaa", sum := "4668807aa60a156348088ea67b2f533e781a268d0a8adaae25ee19d7d277903b", func := "loop.example/g00851/laws.FnExactCutOut", spec := "fnExactCutOut", unfollowed := true, recurses := true, apart := false }
def FnExactCutOutSaid : Prop := fnExactCutOutRow.holds Try.pinned (OpenSpec.ofChange fnExactCutOutSpec)

/-- ITS FALSE NEIGHBOUR: 'it returns false'. Refute it at one input. -/
def fnExactCutOutWrong : ChangeSpec := { name := "fnExactCutOut", fn := fun _ => fun
  | [d1, d2] => { results := [.lit (.bool false)], args := [d1, d2] }
  | _ => none }
def FnExactCutOutWrongFalsely : Prop := fnExactCutOutRow.holds Try.pinned (OpenSpec.ofChange fnExactCutOutWrong)

/-- 'laws.FnExactRowPairs': WHATEVER THE INPUT: true; the input reads as it did. -/
def fnExactRowPairsSpec : ChangeSpec := { name := "fnExactRowPairs", fn := fun _ => fun
  | [d] => { results := [.lit (.bool true)], args := [d] }
  | _ => none }
def fnExactRowPairsRow : OpenClaim := { program := "ythhnbplmhbbnnaa", sum := "4668807aa60a156348088ea67b2f533e781a268d0a8adaae25ee19d7d277903b", func := "loop.example/g00851/laws.FnExactRowPairs", spec := "fnExactRowPairs", apart := false }
def FnExactRowPairsSaid : Prop := fnExactRowPairsRow.holds Try.pinned (OpenSpec.ofChange fnExactRowPairsSpec)

/-- ITS FALSE NEIGHBOUR: 'it returns false'. Refute it at one input. -/
def fnExactRowPairsWrong : ChangeSpec := { name := "fnExactRowPairs", fn := fun _ => fun
  | [d] => { results := [.lit (.bool false)], args := [d] }
  | _ => none }
def FnExactRowPairsWrongFalsely : Prop := fnExactRowPairsRow.holds Try.pinned (OpenSpec.ofChange fnExactRowPairsWrong)

/-- 'laws.FnExactRowOrders': WHATEVER THE INPUT: true; the input reads as it did. -/
def fnExactRowOrdersSpec : ChangeSpec := { name := "fnExactRowOrders", fn := fun _ => fun
  | [d] => { results := [.lit (.bool true)], args := [d] }
  | _ => none }
def fnExactRowOrdersRow : OpenClaim := { program := "ythhnbplmhbbnnaa", sum := "4668807aa60a156348088ea67b2f533e781a268d0a8adaae25ee19d7d277903b", func := "loop.example/g00851/laws.FnExactRowOrders", spec := "fnExactRowOrders", apart := false }
def FnExactRowOrdersSaid : Prop := fnExactRowOrdersRow.holds Try.pinned (OpenSpec.ofChange fnExactRowOrdersSpec)

/-- ITS FALSE NEIGHBOUR: 'it returns false'. Refute it at one input. -/
def fnExactRowOrdersWrong : ChangeSpec := { name := "fnExactRowOrders", fn := fun _ => fun
  | [d] => { results := [.lit (.bool false)], args := [d] }
  | _ => none }
def FnExactRowOrdersWrongFalsely : Prop := fnExactRowOrdersRow.holds Try.pinned (OpenSpec.ofChange fnExactRowOrdersWrong)

/-- 'laws.FnExactPut': WHATEVER THE INPUT: true; the input reads as it did. -/
def fnExactPutSpec : ChangeSpec := { name := "fnExactPut", fn := fun _ => fun
  | [d1, d2, d3] => { results := [.lit (.bool true)], args := [d1, d2, d3] }
  | _ => none }
def fnExactPutRow : OpenClaim := { program := "ythhnbplmhbbnnaa", sum := "4668807aa60a156348088ea67b2f533e781a268d0a8adaae25ee19d7d277903b", func := "loop.example/g00851/laws.FnExactPut", spec := "fnExactPut", inPlace := ["slices.overlaps[loop.example/g00851/impl.Pair]"], apart := false }
def FnExactPutSaid : Prop := fnExactPutRow.holds Try.pinned (OpenSpec.ofChange fnExactPutSpec)

/-- ITS FALSE NEIGHBOUR: 'it returns false'. Refute it at one input. -/
def fnExactPutWrong : ChangeSpec := { name := "fnExactPut", fn := fun _ => fun
  | [d1, d2, d3] => { results := [.lit (.bool false)], args := [d1, d2, d3] }
  | _ => none }
def FnExactPutWrongFalsely : Prop := fnExactPutRow.holds Try.pinned (OpenSpec.ofChange fnExactPutWrong)

/-- 'laws.FnExactJobFired': WHATEVER THE INPUT: true; the input reads as it did. -/
def fnExactJobFiredSpec : ChangeSpec := { name := "fnExactJobFired", fn := fun _ => fun
  | [d1, d2, d3] => { results := [.lit (.bool true)], args := [d1, d2, d3] }
  | _ => none }
def fnExactJobFiredRow : OpenClaim := { program := "ythhnbplmhbbnnaa", sum := "4668807aa60a156348088ea67b2f533e781a268d0a8adaae25ee19d7d277903b", func := "loop.example/g00851/laws.FnExactJobFired", spec := "fnExactJobFired", unfollowed := true, recurses := true, apart := false }
def FnExactJobFiredSaid : Prop := fnExactJobFiredRow.holds Try.pinned (OpenSpec.ofChange fnExactJobFiredSpec)

/-- ITS FALSE NEIGHBOUR: 'it returns false'. Refute it at one input. -/
def fnExactJobFiredWrong : ChangeSpec := { name := "fnExactJobFired", fn := fun _ => fun
  | [d1, d2, d3] => { results := [.lit (.bool false)], args := [d1, d2, d3] }
  | _ => none }
def FnExactJobFiredWrongFalsely : Prop := fnExactJobFiredRow.holds Try.pinned (OpenSpec.ofChange fnExactJobFiredWrong)

/-- 'laws.FnExactJobAdded': WHATEVER THE INPUT: true; the input reads as it did. -/
def fnExactJobAddedSpec : ChangeSpec := { name := "fnExactJobAdded", fn := fun _ => fun
  | [d1, d2] => { results := [.lit (.bool true)], args := [d1, d2] }
  | _ => none }
def fnExactJobAddedRow : OpenClaim := { program := "ythhnbplmhbbnnaa", sum := "4668807aa60a156348088ea67b2f533e781a268d0a8adaae25ee19d7d277903b", func := "loop.example/g00851/laws.FnExactJobAdded", spec := "fnExactJobAdded", inPlace := ["slices.overlaps[loop.example/g00851/impl.Job]"], unfollowed := true, recurses := true, apart := false }
def FnExactJobAddedSaid : Prop := fnExactJobAddedRow.holds Try.pinned (OpenSpec.ofChange fnExactJobAddedSpec)

/-- ITS FALSE NEIGHBOUR: 'it returns false'. Refute it at one input. -/
def fnExactJobAddedWrong : ChangeSpec := { name := "fnExactJobAdded", fn := fun _ => fun
  | [d1, d2] => { results := [.lit (.bool false)], args := [d1, d2] }
  | _ => none }
def FnExactJobAddedWrongFalsely : Prop := fnExactJobAddedRow.holds Try.pinned (OpenSpec.ofChange fnExactJobAddedWrong)

/-- 'laws.FnLeaseOne': WHATEVER THE INPUT: true; the input reads as it did. -/
def fnLeaseOneSpec : ChangeSpec := { name := "fnLeaseOne", fn := fun _ => fun
  | [d] => { results := [.lit (.bool true)], args := [d] }
  | _ => none }
def fnLeaseOneRow : OpenClaim := { program := "ythhnbplmhbbnnaa", sum := "4668807aa60a156348088ea67b2f533e781a268d0a8adaae25ee19d7d277903b", func := "loop.example/g00851/laws.FnLeaseOne", spec := "fnLeaseOne", apart := false }
def FnLeaseOneSaid : Prop := fnLeaseOneRow.holds Try.pinned (OpenSpec.ofChange fnLeaseOneSpec)

/-- ITS FALSE NEIGHBOUR: 'it returns false'. Refute it at one input. -/
def fnLeaseOneWrong : ChangeSpec := { name := "fnLeaseOne", fn := fun _ => fun
  | [d] => { results := [.lit (.bool false)], args := [d] }
  | _ => none }
def FnLeaseOneWrongFalsely : Prop := fnLeaseOneRow.holds Try.pinned (OpenSpec.ofChange fnLeaseOneWrong)

/-- 'laws.FnLeaseBack': WHATEVER THE INPUT: true; the input reads as it did. -/
def fnLeaseBackSpec : ChangeSpec := { name := "fnLeaseBack", fn := fun _ => fun
  | [d] => { results := [.lit (.bool true)], args := [d] }
  | _ => none }
def fnLeaseBackRow : OpenClaim := { program := "ythhnbplmhbbnnaa", sum := "4668807aa60a156348088ea67b2f533e781a268d0a8adaae25ee19d7d277903b", func := "loop.example/g00851/laws.FnLeaseBack", spec := "fnLeaseBack", apart := false }
def FnLeaseBackSaid : Prop := fnLeaseBackRow.holds Try.pinned (OpenSpec.ofChange fnLeaseBackSpec)

/-- ITS FALSE NEIGHBOUR: 'it returns false'. Refute it at one input. -/
def fnLeaseBackWrong : ChangeSpec := { name := "fnLeaseBack", fn := fun _ => fun
  | [d] => { results := [.lit (.bool false)], args := [d] }
  | _ => none }
def FnLeaseBackWrongFalsely : Prop := fnLeaseBackRow.holds Try.pinned (OpenSpec.ofChange fnLeaseBackWrong)

/-- 'laws.FnPairsBack': WHATEVER THE INPUT: true; the input reads as it did. -/
def fnPairsBackSpec : ChangeSpec := { name := "fnPairsBack", fn := fun _ => fun
  | [d] => { results := [.lit (.bool true)], args := [d] }
  | _ => none }
def fnPairsBackRow : OpenClaim := { program := "ythhnbplmhbbnnaa", sum := "4668807aa60a156348088ea67b2f533e781a268d0a8adaae25ee19d7d277903b", func := "loop.example/g00851/laws.FnPairsBack", spec := "fnPairsBack", unfollowed := true, recurses := true, apart := false }
def FnPairsBackSaid : Prop := fnPairsBackRow.holds Try.pinned (OpenSpec.ofChange fnPairsBackSpec)

/-- ITS FALSE NEIGHBOUR: 'it returns false'. Refute it at one input. -/
def fnPairsBackWrong : ChangeSpec := { name := "fnPairsBack", fn := fun _ => fun
  | [d] => { results := [.lit (.bool false)], args := [d] }
  | _ => none }
def FnPairsBackWrongFalsely : Prop := fnPairsBackRow.holds Try.pinned (OpenSpec.ofChange fnPairsBackWrong)

/-- 'laws.FnJobsBack': WHATEVER THE INPUT: true; the input reads as it did. -/
def fnJobsBackSpec : ChangeSpec := { name := "fnJobsBack", fn := fun _ => fun
  | [d] => { results := [.lit (.bool true)], args := [d] }
  | _ => none }
def fnJobsBackRow : OpenClaim := { program := "ythhnbplmhbbnnaa", sum := "4668807aa60a156348088ea67b2f533e781a268d0a8adaae25ee19d7d277903b", func := "loop.example/g00851/laws.FnJobsBack", spec := "fnJobsBack", apart := false }
def FnJobsBackSaid : Prop := fnJobsBackRow.holds Try.pinned (OpenSpec.ofChange fnJobsBackSpec)

/-- ITS FALSE NEIGHBOUR: 'it returns false'. Refute it at one input. -/
def fnJobsBackWrong : ChangeSpec := { name := "fnJobsBack", fn := fun _ => fun
  | [d] => { results := [.lit (.bool false)], args := [d] }
  | _ => none }
def FnJobsBackWrongFalsely : Prop := fnJobsBackRow.holds Try.pinned (OpenSpec.ofChange fnJobsBackWrong)

/-- 'laws.FnPut': WHATEVER THE INPUT: true; the input reads as it did. -/
def fnPutSpec : ChangeSpec := { name := "fnPut", fn := fun _ => fun
  | [d] => { results := [.lit (.bool true)], args := [d] }
  | _ => none }
def fnPutRow : OpenClaim := { program := "ythhnbplmhbbnnaa", sum := "4668807aa60a156348088ea67b2f533e781a268d0a8adaae25ee19d7d277903b", func := "loop.example/g00851/laws.FnPut", spec := "fnPut", inPlace := ["slices.overlaps[loop.example/g00851/impl.Pair]"], unfollowed := true, recurses := true, apart := false }
def FnPutSaid : Prop := fnPutRow.holds Try.pinned (OpenSpec.ofChange fnPutSpec)

/-- ITS FALSE NEIGHBOUR: 'it returns false'. Refute it at one input. -/
def fnPutWrong : ChangeSpec := { name := "fnPut", fn := fun _ => fun
  | [d] => { results := [.lit (.bool false)], args := [d] }
  | _ => none }
def FnPutWrongFalsely : Prop := fnPutRow.holds Try.pinned (OpenSpec.ofChange fnPutWrong)

/-- 'laws.FnJobOnce': WHATEVER THE INPUT: true; the input reads as it did. -/
def fnJobOnceSpec : ChangeSpec := { name := "fnJobOnce", fn := fun _ => fun
  | [d] => { results := [.lit (.bool true)], args := [d] }
  | _ => none }
def fnJobOnceRow : OpenClaim := { program := "ythhnbplmhbbnnaa", sum := "4668807aa60a156348088ea67b2f533e781a268d0a8adaae25ee19d7d277903b", func := "loop.example/g00851/laws.FnJobOnce", spec := "fnJobOnce", inPlace := ["slices.overlaps[loop.example/g00851/impl.Job]"], unfollowed := true, recurses := true, apart := false }
def FnJobOnceSaid : Prop := fnJobOnceRow.holds Try.pinned (OpenSpec.ofChange fnJobOnceSpec)

/-- ITS FALSE NEIGHBOUR: 'it returns false'. Refute it at one input. -/
def fnJobOnceWrong : ChangeSpec := { name := "fnJobOnce", fn := fun _ => fun
  | [d] => { results := [.lit (.bool false)], args := [d] }
  | _ => none }
def FnJobOnceWrongFalsely : Prop := fnJobOnceRow.holds Try.pinned (OpenSpec.ofChange fnJobOnceWrong)

/- THE SECOND FORM. 'bulk': how many values and letters a reading holds, each counted each time it is reached (what is shared counts as often as it is met; a slice's spare places count too). A statement '..UptoSaid' is the law's where the arguments, and the package variables that the reading takes, are together of bulk at most 1048576: NARROWER than '..Said'. Prove '..Said' where nothing that the law and all that it calls make is longer than what came in: it says more and counts as full. Else prove '..UptoSaid'. A law counts once. -/
mutual
def uptoBulk {H : Type} : DataW H → Nat
  | .lit (.string bytes) => bytes.length + 1
  | .lit _ => 1
  | .nil => 1
  | .ptr d => uptoBulk d + 1
  | .slice elems spare => uptoBulkAll elems + uptoBulkAll spare + 1
  | .agg parts => uptoBulkAll parts + 1
  | .iface _ d => uptoBulk d + 1
  | .map entries => uptoBulkEntries entries + 1
  | .held _ => 1
def uptoBulkAll {H : Type} : List (DataW H) → Nat
  | [] => 0
  | d :: r => uptoBulk d + uptoBulkAll r
def uptoBulkEntries {H : Type} : List (Lit × DataW H) → Nat
  | [] => 0
  | x :: r => uptoBulkEntry x + uptoBulkEntries r
def uptoBulkEntry {H : Type} : Lit × DataW H → Nat
  | (.string bytes, d) => bytes.length + uptoBulk d + 1
  | (_, d) => uptoBulk d + 1
 end
def uptoSmall : (H : Type) → List (DataW H) → Bool := fun _ ds => decide (uptoBulkAll ds ≤ 1048576)
def OpenSpec.upto (s : _root_.Go.ChangeSpec) : _root_.Go.OpenSpec := { _root_.Go.OpenSpec.ofChange s with cond := some uptoSmall }

/-- 'laws.FnExactCutOut', WHERE WHAT IT READS IS OF BULK AT MOST 1048576: true; the input reads as it did. -/
def fnExactCutOutUptoRow : OpenClaim := { program := "ythhnbplmhbbnnaa", sum := "4668807aa60a156348088ea67b2f533e781a268d0a8adaae25ee19d7d277903b", func := "loop.example/g00851/laws.FnExactCutOut", spec := "fnExactCutOut", unfollowed := true, recurses := true, apart := false, narrowed := true }
def FnExactCutOutUptoSaid : Prop := fnExactCutOutUptoRow.holds Try.pinned (OpenSpec.upto fnExactCutOutSpec)

/-- 'laws.FnExactRowPairs', WHERE WHAT IT READS IS OF BULK AT MOST 1048576: true; the input reads as it did. -/
def fnExactRowPairsUptoRow : OpenClaim := { program := "ythhnbplmhbbnnaa", sum := "4668807aa60a156348088ea67b2f533e781a268d0a8adaae25ee19d7d277903b", func := "loop.example/g00851/laws.FnExactRowPairs", spec := "fnExactRowPairs", apart := false, narrowed := true }
def FnExactRowPairsUptoSaid : Prop := fnExactRowPairsUptoRow.holds Try.pinned (OpenSpec.upto fnExactRowPairsSpec)

/-- 'laws.FnExactRowOrders', WHERE WHAT IT READS IS OF BULK AT MOST 1048576: true; the input reads as it did. -/
def fnExactRowOrdersUptoRow : OpenClaim := { program := "ythhnbplmhbbnnaa", sum := "4668807aa60a156348088ea67b2f533e781a268d0a8adaae25ee19d7d277903b", func := "loop.example/g00851/laws.FnExactRowOrders", spec := "fnExactRowOrders", apart := false, narrowed := true }
def FnExactRowOrdersUptoSaid : Prop := fnExactRowOrdersUptoRow.holds Try.pinned (OpenSpec.upto fnExactRowOrdersSpec)

/-- 'laws.FnExactPut', WHERE WHAT IT READS IS OF BULK AT MOST 1048576: true; the input reads as it did. -/
def fnExactPutUptoRow : OpenClaim := { program := "ythhnbplmhbbnnaa", sum := "4668807aa60a156348088ea67b2f533e781a268d0a8adaae25ee19d7d277903b", func := "loop.example/g00851/laws.FnExactPut", spec := "fnExactPut", inPlace := ["slices.overlaps[loop.example/g00851/impl.Pair]"], apart := false, narrowed := true }
def FnExactPutUptoSaid : Prop := fnExactPutUptoRow.holds Try.pinned (OpenSpec.upto fnExactPutSpec)

/-- 'laws.FnExactJobFired', WHERE WHAT IT READS IS OF BULK AT MOST 1048576: true; the input reads as it did. -/
def fnExactJobFiredUptoRow : OpenClaim := { program := "ythhnbplmhbbnnaa", sum := "4668807aa60a156348088ea67b2f533e781a268d0a8adaae25ee19d7d277903b", func := "loop.example/g00851/laws.FnExactJobFired", spec := "fnExactJobFired", unfollowed := true, recurses := true, apart := false, narrowed := true }
def FnExactJobFiredUptoSaid : Prop := fnExactJobFiredUptoRow.holds Try.pinned (OpenSpec.upto fnExactJobFiredSpec)

/-- 'laws.FnExactJobAdded', WHERE WHAT IT READS IS OF BULK AT MOST 1048576: true; the input reads as it did. -/
def fnExactJobAddedUptoRow : OpenClaim := { program := "ythhnbplmhbbnnaa", sum := "4668807aa60a156348088ea67b2f533e781a268d0a8adaae25ee19d7d277903b", func := "loop.example/g00851/laws.FnExactJobAdded", spec := "fnExactJobAdded", inPlace := ["slices.overlaps[loop.example/g00851/impl.Job]"], unfollowed := true, recurses := true, apart := false, narrowed := true }
def FnExactJobAddedUptoSaid : Prop := fnExactJobAddedUptoRow.holds Try.pinned (OpenSpec.upto fnExactJobAddedSpec)

/-- 'laws.FnLeaseOne', WHERE WHAT IT READS IS OF BULK AT MOST 1048576: true; the input reads as it did. -/
def fnLeaseOneUptoRow : OpenClaim := { program := "ythhnbplmhbbnnaa", sum := "4668807aa60a156348088ea67b2f533e781a268d0a8adaae25ee19d7d277903b", func := "loop.example/g00851/laws.FnLeaseOne", spec := "fnLeaseOne", apart := false, narrowed := true }
def FnLeaseOneUptoSaid : Prop := fnLeaseOneUptoRow.holds Try.pinned (OpenSpec.upto fnLeaseOneSpec)

/-- 'laws.FnLeaseBack', WHERE WHAT IT READS IS OF BULK AT MOST 1048576: true; the input reads as it did. -/
def fnLeaseBackUptoRow : OpenClaim := { program := "ythhnbplmhbbnnaa", sum := "4668807aa60a156348088ea67b2f533e781a268d0a8adaae25ee19d7d277903b", func := "loop.example/g00851/laws.FnLeaseBack", spec := "fnLeaseBack", apart := false, narrowed := true }
def FnLeaseBackUptoSaid : Prop := fnLeaseBackUptoRow.holds Try.pinned (OpenSpec.upto fnLeaseBackSpec)

/-- 'laws.FnPairsBack', WHERE WHAT IT READS IS OF BULK AT MOST 1048576: true; the input reads as it did. -/
def fnPairsBackUptoRow : OpenClaim := { program := "ythhnbplmhbbnnaa", sum := "4668807aa60a156348088ea67b2f533e781a268d0a8adaae25ee19d7d277903b", func := "loop.example/g00851/laws.FnPairsBack", spec := "fnPairsBack", unfollowed := true, recurses := true, apart := false, narrowed := true }
def FnPairsBackUptoSaid : Prop := fnPairsBackUptoRow.holds Try.pinned (OpenSpec.upto fnPairsBackSpec)

/-- 'laws.FnJobsBack', WHERE WHAT IT READS IS OF BULK AT MOST 1048576: true; the input reads as it did. -/
def fnJobsBackUptoRow : OpenClaim := { program := "ythhnbplmhbbnnaa", sum := "4668807aa60a156348088ea67b2f533e781a268d0a8adaae25ee19d7d277903b", func := "loop.example/g00851/laws.FnJobsBack", spec := "fnJobsBack", apart := false, narrowed := true }
def FnJobsBackUptoSaid : Prop := fnJobsBackUptoRow.holds Try.pinned (OpenSpec.upto fnJobsBackSpec)

/-- 'laws.FnPut', WHERE WHAT IT READS IS OF BULK AT MOST 1048576: true; the input reads as it did. -/
def fnPutUptoRow : OpenClaim := { program := "ythhnbplmhbbnnaa", sum := "4668807aa60a156348088ea67b2f533e781a268d0a8adaae25ee19d7d277903b", func := "loop.example/g00851/laws.FnPut", spec := "fnPut", inPlace := ["slices.overlaps[loop.example/g00851/impl.Pair]"], unfollowed := true, recurses := true, apart := false, narrowed := true }
def FnPutUptoSaid : Prop := fnPutUptoRow.holds Try.pinned (OpenSpec.upto fnPutSpec)

/-- 'laws.FnJobOnce', WHERE WHAT IT READS IS OF BULK AT MOST 1048576: true; the input reads as it did. -/
def fnJobOnceUptoRow : OpenClaim := { program := "ythhnbplmhbbnnaa", sum := "4668807aa60a156348088ea67b2f533e781a268d0a8adaae25ee19d7d277903b", func := "loop.example/g00851/laws.FnJobOnce", spec := "fnJobOnce", inPlace := ["slices.overlaps[loop.example/g00851/impl.Job]"], unfollowed := true, recurses := true, apart := false, narrowed := true }
def FnJobOnceUptoSaid : Prop := fnJobOnceUptoRow.holds Try.pinned (OpenSpec.upto fnJobOnceSpec)

end Rows
end Go.Proofs.Ythhnbplmhbbnnaa

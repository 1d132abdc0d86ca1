/-
  No cell of these rows narrows 'for every input' (looked for: loops, veiled, ifaces, maps, wideKeys, modest, calm, conditions, laid).
  DERIVED. THE GIVEN ROWS OF THIS SEAT. 3 by the template 'for every input the law returns true; each argument reads behind the call as it read before'; 0 by the template 'total and deterministic' (their statements: YtokklkmibjpjnaaGreatTotals.lean).
  GIVEN WITH THE SEED: the statements are not yours to turn. If you find one false, say at which input.
  Laid BY PROGRAM, IN A SANDBOX (cutbox-rows.mjs): the forced cells as the released guide's own fill.sh prints them over the translation 8518be3058478656… (all of the seat's roots in one cut). By AI agents, Wed Nov 11 2026. No macro, syntax, notation, axiom, sorry.
-/
import Derived.Test.YtokklkmibjpjnaaGreatChecked
import GoSem.Claim
import GoSem.ClaimJoined
import GoSem.ClaimMapViews
import Derived.JoinedTies
import Derived.KernelRfl
namespace Go.Proofs.YtokklkmibjpjnaaGreat
/- THE CELL 'sum', in the pinned program and in every row, IS THE sha256 OF THE DUMP (.gsa) THAT YtokklkmibjpjnaaGreatProg.lean LOADS. Nothing in Lean hashes anything: it is a label: what it is worth is what the hold of that sum in a sandbox is worth. -/
noncomputable def Tryz.pinned : Pinned := { name := "ytokklkmibjpjnaagreat", sum := "8518be3058478656ad11f91bff24fb0ab4c168015e2f25597199dc8ce6b7c09c", checked := Tryz.checked }
namespace Rows
def none {H : Type} : Left H := { results := [], args := [] }

/-- 'laws.FnExactApplied': WHATEVER THE INPUT: true; the input reads as it did. -/
def fnExactAppliedSpec : ChangeSpec := { name := "fnExactApplied", fn := fun _ => fun
  | [d1, d2] => { results := [.lit (.bool true)], args := [d1, d2] }
  | _ => none }
def fnExactAppliedRow : OpenClaim := { program := "ytokklkmibjpjnaagreat", sum := "8518be3058478656ad11f91bff24fb0ab4c168015e2f25597199dc8ce6b7c09c", func := "loop.example/g00851/laws.FnExactApplied", spec := "fnExactApplied", inPlace := ["slices.overlaps[loop.example/g00851/impl.Pair]", "slices.overlaps[loop.example/g00851/impl.Job]"], unfollowed := true, recurses := true, apart := false }
def FnExactAppliedSaid : Prop := fnExactAppliedRow.holds Tryz.pinned (OpenSpec.ofChange fnExactAppliedSpec)

/-- ITS FALSE NEIGHBOUR: 'it returns false'. Refute it at one input. -/
def fnExactAppliedWrong : ChangeSpec := { name := "fnExactApplied", fn := fun _ => fun
  | [d1, d2] => { results := [.lit (.bool false)], args := [d1, d2] }
  | _ => none }
def FnExactAppliedWrongFalsely : Prop := fnExactAppliedRow.holds Tryz.pinned (OpenSpec.ofChange fnExactAppliedWrong)

/-- 'laws.FnExactEffectOf': WHATEVER THE INPUT: true; the input reads as it did. -/
def fnExactEffectOfSpec : ChangeSpec := { name := "fnExactEffectOf", fn := fun _ => fun
  | [d1, d2] => { results := [.lit (.bool true)], args := [d1, d2] }
  | _ => none }
def fnExactEffectOfRow : OpenClaim := { program := "ytokklkmibjpjnaagreat", sum := "8518be3058478656ad11f91bff24fb0ab4c168015e2f25597199dc8ce6b7c09c", func := "loop.example/g00851/laws.FnExactEffectOf", spec := "fnExactEffectOf", inPlace := ["slices.overlaps[loop.example/g00851/impl.Pair]", "slices.overlaps[loop.example/g00851/impl.Job]"], unfollowed := true, recurses := true, apart := false }
def FnExactEffectOfSaid : Prop := fnExactEffectOfRow.holds Tryz.pinned (OpenSpec.ofChange fnExactEffectOfSpec)

/-- ITS FALSE NEIGHBOUR: 'it returns false'. Refute it at one input. -/
def fnExactEffectOfWrong : ChangeSpec := { name := "fnExactEffectOf", fn := fun _ => fun
  | [d1, d2] => { results := [.lit (.bool false)], args := [d1, d2] }
  | _ => none }
def FnExactEffectOfWrongFalsely : Prop := fnExactEffectOfRow.holds Tryz.pinned (OpenSpec.ofChange fnExactEffectOfWrong)

/-- 'laws.FnFold': WHATEVER THE INPUT: true; the input reads as it did. -/
def fnFoldSpec : ChangeSpec := { name := "fnFold", fn := fun _ => fun
  | [d] => { results := [.lit (.bool true)], args := [d] }
  | _ => none }
def fnFoldRow : OpenClaim := { program := "ytokklkmibjpjnaagreat", sum := "8518be3058478656ad11f91bff24fb0ab4c168015e2f25597199dc8ce6b7c09c", func := "loop.example/g00851/laws.FnFold", spec := "fnFold", inPlace := ["slices.overlaps[loop.example/g00851/impl.Pair]", "slices.overlaps[loop.example/g00851/impl.Job]"], unfollowed := true, recurses := true, apart := false }
def FnFoldSaid : Prop := fnFoldRow.holds Tryz.pinned (OpenSpec.ofChange fnFoldSpec)

/-- ITS FALSE NEIGHBOUR: 'it returns false'. Refute it at one input. -/
def fnFoldWrong : ChangeSpec := { name := "fnFold", fn := fun _ => fun
  | [d] => { results := [.lit (.bool false)], args := [d] }
  | _ => none }
def FnFoldWrongFalsely : Prop := fnFoldRow.holds Tryz.pinned (OpenSpec.ofChange fnFoldWrong)

/- THE SECOND FORM. 'bulk': how many values and letters a reading holds, each counted each time it is reached (what is shared counts as often as it is met; a slice's spare places count too). A statement '..UptoSaid' is the law's where the arguments, and the package variables that the reading takes, are together of bulk at most 1048576: NARROWER than '..Said'. Prove '..Said' where nothing that the law and all that it calls make is longer than what came in: it says more and counts as full. Else prove '..UptoSaid'. A law counts once. -/
mutual
def uptoBulk {H : Type} : DataW H → Nat
  | .lit (.string bytes) => bytes.length + 1
  | .lit _ => 1
  | .nil => 1
  | .ptr d => uptoBulk d + 1
  | .slice elems spare => uptoBulkAll elems + uptoBulkAll spare + 1
  | .agg parts => uptoBulkAll parts + 1
  | .iface _ d => uptoBulk d + 1
  | .map entries => uptoBulkEntries entries + 1
  | .held _ => 1
def uptoBulkAll {H : Type} : List (DataW H) → Nat
  | [] => 0
  | d :: r => uptoBulk d + uptoBulkAll r
def uptoBulkEntries {H : Type} : List (Lit × DataW H) → Nat
  | [] => 0
  | x :: r => uptoBulkEntry x + uptoBulkEntries r
def uptoBulkEntry {H : Type} : Lit × DataW H → Nat
  | (.string bytes, d) => bytes.length + uptoBulk d + 1
  | (_, d) => uptoBulk d + 1
 end
def uptoSmall : (H : Type) → List (DataW H) → Bool := fun _ ds => decide (uptoBulkAll ds ≤ 1048576)
def OpenSpec.upto (s : _root_.Go.ChangeSpec) : _root_.Go.OpenSpec := { _root_.Go.OpenSpec.ofChange s with cond := some uptoSmall }

/-- 'laws.FnExactApplied', WHERE WHAT IT READS IS OF BULK AT MOST 1048576: true; the input reads as it did. -/
def fnExactAppliedUptoRow : OpenClaim := { program := "ytokklkmibjpjnaagreat", sum := "8518be3058478656ad11f91bff24fb0ab4c168015e2f25597199dc8ce6b7c09c", func := "loop.example/g00851/laws.FnExactApplied", spec := "fnExactApplied", inPlace := ["slices.overlaps[loop.example/g00851/impl.Pair]", "slices.overlaps[loop.example/g00851/impl.Job]"], unfollowed := true, recurses := true, apart := false, narrowed := true }
def FnExactAppliedUptoSaid : Prop := fnExactAppliedUptoRow.holds Tryz.pinned (OpenSpec.upto fnExactAppliedSpec)

/-- 'laws.FnExactEffectOf', WHERE WHAT IT READS IS OF BULK AT MOST 1048576: true; the input reads as it did. -/
def fnExactEffectOfUptoRow : OpenClaim := { program := "ytokklkmibjpjnaagreat", sum := "8518be3058478656ad11f91bff24fb0ab4c168015e2f25597199dc8ce6b7c09c", func := "loop.example/g00851/laws.FnExactEffectOf", spec := "fnExactEffectOf", inPlace := ["slices.overlaps[loop.example/g00851/impl.Pair]", "slices.overlaps[loop.example/g00851/impl.Job]"], unfollowed := true, recurses := true, apart := false, narrowed := true }
def FnExactEffectOfUptoSaid : Prop := fnExactEffectOfUptoRow.holds Tryz.pinned (OpenSpec.upto fnExactEffectOfSpec)

/-- 'laws.FnFold', WHERE WHAT IT READS IS OF BULK AT MOST 1048576: true; the input reads as it did. -/
def fnFoldUptoRow : OpenClaim := { program := "ytokklkmibjpjnaagreat", sum := "8518be3058478656ad11f91bff24fb0ab4c168015e2f25597199dc8ce6b7c09c", func := "loop.example/g00851/laws.FnFold", spec := "fnFold", inPlace := ["slices.overlaps[loop.example/g00851/impl.Pair]", "slices.overlaps[loop.example/g00851/impl.Job]"], unfollowed := true, recurses := true, apart := false, narrowed := true }
def FnFoldUptoSaid : Prop := fnFoldUptoRow.holds Tryz.pinned (OpenSpec.upto fnFoldSpec)

end Rows
end Go.Proofs.YtokklkmibjpjnaaGreat

/-
  No cell of these rows narrows 'for every input' (looked for: loops, veiled, ifaces, maps, wideKeys, modest, calm, conditions, laid).
  DERIVED. THE GIVEN ROWS OF THIS SEAT. 12 by the template 'for every input the law returns true; each argument reads behind the call as it read before'; 0 by the template 'total and deterministic' (their statements: YtpejbpmccmbedaaTotals.lean).
  GIVEN WITH THE SEED: the statements are not yours to turn. If you find one false, say at which input.
  Laid BY PROGRAM, IN A SANDBOX (cutbox-rows.mjs): the forced cells as the released guide's own fill.sh prints them over the translation 909d258b313e02a8… (all of the seat's roots in one cut). By AI agents, Wed Nov 11 2026. No macro, syntax, notation, axiom, sorry.
-/
import Derived.Test.YtpejbpmccmbedaaChecked
import GoSem.Claim
import GoSem.ClaimJoined
import GoSem.ClaimMapViews
import Derived.JoinedTies
import Derived.KernelRfl
namespace Go.Proofs.Ytpejbpmccmbedaa
/- THE CELL 'sum', in the pinned program and in every row, IS THE sha256 OF THE DUMP (.gsa) THAT YtpejbpmccmbedaaProg.lean LOADS. Nothing in Lean hashes anything: it is a label: what it is worth is what the hold of that sum in a sandbox is worth. -/
noncomputable def Try.pinned : Pinned := { name := "ytpejbpmccmbedaa", sum := "909d258b313e02a8a4245302340cfa94db7e740616c5b89c44aacdaea603ca7b", checked := Try.checked }
namespace Rows
def none {H : Type} : Left H := { results := [], args := [] }

/-- 'laws.FnExactSamePairs': WHATEVER THE INPUT: true; the input reads as it did. -/
def fnExactSamePairsSpec : ChangeSpec := { name := "fnExactSamePairs", fn := fun _ => fun
  | [d1, d2] => { results := [.lit (.bool true)], args := [d1, d2] }
  | _ => none }
def fnExactSamePairsRow : OpenClaim := { program := "ytpejbpmccmbedaa", sum := "909d258b313e02a8a4245302340cfa94db7e740616c5b89c44aacdaea603ca7b", func := "loop.example/g00851/laws.FnExactSamePairs", spec := "fnExactSamePairs", apart := false }
def FnExactSamePairsSaid : Prop := fnExactSamePairsRow.holds Try.pinned (OpenSpec.ofChange fnExactSamePairsSpec)

/-- ITS FALSE NEIGHBOUR: 'it returns false'. Refute it at one input. -/
def fnExactSamePairsWrong : ChangeSpec := { name := "fnExactSamePairs", fn := fun _ => fun
  | [d1, d2] => { results := [.lit (.bool false)], args := [d1, d2] }
  | _ => none }
def FnExactSamePairsWrongFalsely : Prop := fnExactSamePairsRow.holds Try.pinned (OpenSpec.ofChange fnExactSamePairsWrong)

/-- 'laws.FnExactJobsOk': WHATEVER THE INPUT: true; the input reads as it did. -/
def fnExactJobsOkSpec : ChangeSpec := { name := "fnExactJobsOk", fn := fun _ => fun
  | [d] => { results := [.lit (.bool true)], args := [d] }
  | _ => none }
def fnExactJobsOkRow : OpenClaim := { program := "ytpejbpmccmbedaa", sum := "909d258b313e02a8a4245302340cfa94db7e740616c5b89c44aacdaea603ca7b", func := "loop.example/g00851/laws.FnExactJobsOk", spec := "fnExactJobsOk", apart := false }
def FnExactJobsOkSaid : Prop := fnExactJobsOkRow.holds Try.pinned (OpenSpec.ofChange fnExactJobsOkSpec)

/-- ITS FALSE NEIGHBOUR: 'it returns false'. Refute it at one input. -/
def fnExactJobsOkWrong : ChangeSpec := { name := "fnExactJobsOk", fn := fun _ => fun
  | [d] => { results := [.lit (.bool false)], args := [d] }
  | _ => none }
def FnExactJobsOkWrongFalsely : Prop := fnExactJobsOkRow.holds Try.pinned (OpenSpec.ofChange fnExactJobsOkWrong)

/-- 'laws.FnExactValueAt': WHATEVER THE INPUT: true; the input reads as it did. -/
def fnExactValueAtSpec : ChangeSpec := { name := "fnExactValueAt", fn := fun _ => fun
  | [d1, d2] => { results := [.lit (.bool true)], args := [d1, d2] }
  | _ => none }
def fnExactValueAtRow : OpenClaim := { program := "ytpejbpmccmbedaa", sum := "909d258b313e02a8a4245302340cfa94db7e740616c5b89c44aacdaea603ca7b", func := "loop.example/g00851/laws.FnExactValueAt", spec := "fnExactValueAt", unfollowed := true, recurses := true, apart := false }
def FnExactValueAtSaid : Prop := fnExactValueAtRow.holds Try.pinned (OpenSpec.ofChange fnExactValueAtSpec)

/-- ITS FALSE NEIGHBOUR: 'it returns false'. Refute it at one input. -/
def fnExactValueAtWrong : ChangeSpec := { name := "fnExactValueAt", fn := fun _ => fun
  | [d1, d2] => { results := [.lit (.bool false)], args := [d1, d2] }
  | _ => none }
def FnExactValueAtWrongFalsely : Prop := fnExactValueAtRow.holds Try.pinned (OpenSpec.ofChange fnExactValueAtWrong)

/-- 'laws.FnExactSameJobs': WHATEVER THE INPUT: true; the input reads as it did. -/
def fnExactSameJobsSpec : ChangeSpec := { name := "fnExactSameJobs", fn := fun _ => fun
  | [d1, d2] => { results := [.lit (.bool true)], args := [d1, d2] }
  | _ => none }
def fnExactSameJobsRow : OpenClaim := { program := "ytpejbpmccmbedaa", sum := "909d258b313e02a8a4245302340cfa94db7e740616c5b89c44aacdaea603ca7b", func := "loop.example/g00851/laws.FnExactSameJobs", spec := "fnExactSameJobs", apart := false }
def FnExactSameJobsSaid : Prop := fnExactSameJobsRow.holds Try.pinned (OpenSpec.ofChange fnExactSameJobsSpec)

/-- ITS FALSE NEIGHBOUR: 'it returns false'. Refute it at one input. -/
def fnExactSameJobsWrong : ChangeSpec := { name := "fnExactSameJobs", fn := fun _ => fun
  | [d1, d2] => { results := [.lit (.bool false)], args := [d1, d2] }
  | _ => none }
def FnExactSameJobsWrongFalsely : Prop := fnExactSameJobsRow.holds Try.pinned (OpenSpec.ofChange fnExactSameJobsWrong)

/-- 'laws.FnExactPairsRow': WHATEVER THE INPUT: true; the input reads as it did. -/
def fnExactPairsRowSpec : ChangeSpec := { name := "fnExactPairsRow", fn := fun _ => fun
  | [d] => { results := [.lit (.bool true)], args := [d] }
  | _ => none }
def fnExactPairsRowRow : OpenClaim := { program := "ytpejbpmccmbedaa", sum := "909d258b313e02a8a4245302340cfa94db7e740616c5b89c44aacdaea603ca7b", func := "loop.example/g00851/laws.FnExactPairsRow", spec := "fnExactPairsRow", apart := false }
def FnExactPairsRowSaid : Prop := fnExactPairsRowRow.holds Try.pinned (OpenSpec.ofChange fnExactPairsRowSpec)

/-- ITS FALSE NEIGHBOUR: 'it returns false'. Refute it at one input. -/
def fnExactPairsRowWrong : ChangeSpec := { name := "fnExactPairsRow", fn := fun _ => fun
  | [d] => { results := [.lit (.bool false)], args := [d] }
  | _ => none }
def FnExactPairsRowWrongFalsely : Prop := fnExactPairsRowRow.holds Try.pinned (OpenSpec.ofChange fnExactPairsRowWrong)

/-- 'laws.FnExactJobAt': WHATEVER THE INPUT: true; the input reads as it did. -/
def fnExactJobAtSpec : ChangeSpec := { name := "fnExactJobAt", fn := fun _ => fun
  | [d1, d2] => { results := [.lit (.bool true)], args := [d1, d2] }
  | _ => none }
def fnExactJobAtRow : OpenClaim := { program := "ytpejbpmccmbedaa", sum := "909d258b313e02a8a4245302340cfa94db7e740616c5b89c44aacdaea603ca7b", func := "loop.example/g00851/laws.FnExactJobAt", spec := "fnExactJobAt", unfollowed := true, recurses := true, apart := false }
def FnExactJobAtSaid : Prop := fnExactJobAtRow.holds Try.pinned (OpenSpec.ofChange fnExactJobAtSpec)

/-- ITS FALSE NEIGHBOUR: 'it returns false'. Refute it at one input. -/
def fnExactJobAtWrong : ChangeSpec := { name := "fnExactJobAt", fn := fun _ => fun
  | [d1, d2] => { results := [.lit (.bool false)], args := [d1, d2] }
  | _ => none }
def FnExactJobAtWrongFalsely : Prop := fnExactJobAtRow.holds Try.pinned (OpenSpec.ofChange fnExactJobAtWrong)

/-- 'laws.FnExactCutOut': WHATEVER THE INPUT: true; the input reads as it did. -/
def fnExactCutOutSpec : ChangeSpec := { name := "fnExactCutOut", fn := fun _ => fun
  | [d1, d2] => { results := [.lit (.bool true)], args := [d1, d2] }
  | _ => none }
def fnExactCutOutRow : OpenClaim := { program := "ytpejbpmccmbedaa", sum := "909d258b313e02a8a4245302340cfa94db7e740616c5b89c44aacdaea603ca7b", func := "loop.example/g00851/laws.FnExactCutOut", spec := "fnExactCutOut", unfollowed := true, recurses := true, apart := false }
def FnExactCutOutSaid : Prop := fnExactCutOutRow.holds Try.pinned (OpenSpec.ofChange fnExactCutOutSpec)

/-- ITS FALSE NEIGHBOUR: 'it returns false'. Refute it at one input. -/
def fnExactCutOutWrong : ChangeSpec := { name := "fnExactCutOut", fn := fun _ => fun
  | [d1, d2] => { results := [.lit (.bool false)], args := [d1, d2] }
  | _ => none }
def FnExactCutOutWrongFalsely : Prop := fnExactCutOutRow.holds Try.pinned (OpenSpec.ofChange fnExactCutOutWrong)

/-- 'laws.FnExactRowPairs': WHATEVER THE INPUT: true; the input reads as it did. -/
def fnExactRowPairsSpec : ChangeSpec := { name := "fnExactRowPairs", fn := fun _ => fun
  | [d] => { results := [.lit (.bool true)], args := [d] }
  | _ => none }
def fnExactRowPairsRow : OpenClaim := { program := "ytpejbpmccmbedaa", sum := "909d258b313e02a8a4245302340cfa94db7e740616c5b89c44aacdaea603ca7b", func := "loop.example/g00851/laws.FnExactRowPairs", spec := "fnExactRowPairs", apart := false }
def FnExactRowPairsSaid : Prop := fnExactRowPairsRow.holds Try.pinned (OpenSpec.ofChange fnExactRowPairsSpec)

/-- ITS FALSE NEIGHBOUR: 'it returns false'. Refute it at one input. -/
def fnExactRowPairsWrong : ChangeSpec := { name := "fnExactRowPairs", fn := fun _ => fun
  | [d] => { results := [.lit (.bool false)], args := [d] }
  | _ => none }
def FnExactRowPairsWrongFalsely : Prop := fnExactRowPairsRow.holds Try.pinned (OpenSpec.ofChange fnExactRowPairsWrong)

/-- 'laws.FnExactUnlikeIn': WHATEVER THE INPUT: true; the input reads as it did. -/
def fnExactUnlikeInSpec : ChangeSpec := { name := "fnExactUnlikeIn", fn := fun _ => fun
  | [d1, d2] => { results := [.lit (.bool true)], args := [d1, d2] }
  | _ => none }
def fnExactUnlikeInRow : OpenClaim := { program := "ytpejbpmccmbedaa", sum := "909d258b313e02a8a4245302340cfa94db7e740616c5b89c44aacdaea603ca7b", func := "loop.example/g00851/laws.FnExactUnlikeIn", spec := "fnExactUnlikeIn", unfollowed := true, recurses := true, apart := false }
def FnExactUnlikeInSaid : Prop := fnExactUnlikeInRow.holds Try.pinned (OpenSpec.ofChange fnExactUnlikeInSpec)

/-- ITS FALSE NEIGHBOUR: 'it returns false'. Refute it at one input. -/
def fnExactUnlikeInWrong : ChangeSpec := { name := "fnExactUnlikeIn", fn := fun _ => fun
  | [d1, d2] => { results := [.lit (.bool false)], args := [d1, d2] }
  | _ => none }
def FnExactUnlikeInWrongFalsely : Prop := fnExactUnlikeInRow.holds Try.pinned (OpenSpec.ofChange fnExactUnlikeInWrong)

/-- 'laws.FnExactOrdersRow': WHATEVER THE INPUT: true; the input reads as it did. -/
def fnExactOrdersRowSpec : ChangeSpec := { name := "fnExactOrdersRow", fn := fun _ => fun
  | [d] => { results := [.lit (.bool true)], args := [d] }
  | _ => none }
def fnExactOrdersRowRow : OpenClaim := { program := "ytpejbpmccmbedaa", sum := "909d258b313e02a8a4245302340cfa94db7e740616c5b89c44aacdaea603ca7b", func := "loop.example/g00851/laws.FnExactOrdersRow", spec := "fnExactOrdersRow", apart := false }
def FnExactOrdersRowSaid : Prop := fnExactOrdersRowRow.holds Try.pinned (OpenSpec.ofChange fnExactOrdersRowSpec)

/-- ITS FALSE NEIGHBOUR: 'it returns false'. Refute it at one input. -/
def fnExactOrdersRowWrong : ChangeSpec := { name := "fnExactOrdersRow", fn := fun _ => fun
  | [d] => { results := [.lit (.bool false)], args := [d] }
  | _ => none }
def FnExactOrdersRowWrongFalsely : Prop := fnExactOrdersRowRow.holds Try.pinned (OpenSpec.ofChange fnExactOrdersRowWrong)

/-- 'laws.FnExactRowOrders': WHATEVER THE INPUT: true; the input reads as it did. -/
def fnExactRowOrdersSpec : ChangeSpec := { name := "fnExactRowOrders", fn := fun _ => fun
  | [d] => { results := [.lit (.bool true)], args := [d] }
  | _ => none }
def fnExactRowOrdersRow : OpenClaim := { program := "ytpejbpmccmbedaa", sum := "909d258b313e02a8a4245302340cfa94db7e740616c5b89c44aacdaea603ca7b", func := "loop.example/g00851/laws.FnExactRowOrders", spec := "fnExactRowOrders", apart := false }
def FnExactRowOrdersSaid : Prop := fnExactRowOrdersRow.holds Try.pinned (OpenSpec.ofChange fnExactRowOrdersSpec)

/-- ITS FALSE NEIGHBOUR: 'it returns false'. Refute it at one input. -/
def fnExactRowOrdersWrong : ChangeSpec := { name := "fnExactRowOrders", fn := fun _ => fun
  | [d] => { results := [.lit (.bool false)], args := [d] }
  | _ => none }
def FnExactRowOrdersWrongFalsely : Prop := fnExactRowOrdersRow.holds Try.pinned (OpenSpec.ofChange fnExactRowOrdersWrong)

/-- 'laws.FnExactPut': WHATEVER THE INPUT: true; the input reads as it did. -/
def fnExactPutSpec : ChangeSpec := { name := "fnExactPut", fn := fun _ => fun
  | [d1, d2, d3] => { results := [.lit (.bool true)], args := [d1, d2, d3] }
  | _ => none }
def fnExactPutRow : OpenClaim := { program := "ytpejbpmccmbedaa", sum := "909d258b313e02a8a4245302340cfa94db7e740616c5b89c44aacdaea603ca7b", func := "loop.example/g00851/laws.FnExactPut", spec := "fnExactPut", inPlace := ["slices.overlaps[loop.example/g00851/impl.Pair]"], apart := false }
def FnExactPutSaid : Prop := fnExactPutRow.holds Try.pinned (OpenSpec.ofChange fnExactPutSpec)

/-- ITS FALSE NEIGHBOUR: 'it returns false'. Refute it at one input. -/
def fnExactPutWrong : ChangeSpec := { name := "fnExactPut", fn := fun _ => fun
  | [d1, d2, d3] => { results := [.lit (.bool false)], args := [d1, d2, d3] }
  | _ => none }
def FnExactPutWrongFalsely : Prop := fnExactPutRow.holds Try.pinned (OpenSpec.ofChange fnExactPutWrong)

/- THE SECOND FORM. 'bulk': how many values and letters a reading holds, each counted each time it is reached (what is shared counts as often as it is met; a slice's spare places count too). A statement '..UptoSaid' is the law's where the arguments, and the package variables that the reading takes, are together of bulk at most 1048576: NARROWER than '..Said'. Prove '..Said' where nothing that the law and all that it calls make is longer than what came in: it says more and counts as full. Else prove '..UptoSaid'. A law counts once. -/
mutual
def uptoBulk {H : Type} : DataW H → Nat
  | .lit (.string bytes) => bytes.length + 1
  | .lit _ => 1
  | .nil => 1
  | .ptr d => uptoBulk d + 1
  | .slice elems spare => uptoBulkAll elems + uptoBulkAll spare + 1
  | .agg parts => uptoBulkAll parts + 1
  | .iface _ d => uptoBulk d + 1
  | .map entries => uptoBulkEntries entries + 1
  | .held _ => 1
def uptoBulkAll {H : Type} : List (DataW H) → Nat
  | [] => 0
  | d :: r => uptoBulk d + uptoBulkAll r
def uptoBulkEntries {H : Type} : List (Lit × DataW H) → Nat
  | [] => 0
  | x :: r => uptoBulkEntry x + uptoBulkEntries r
def uptoBulkEntry {H : Type} : Lit × DataW H → Nat
  | (.string bytes, d) => bytes.length + uptoBulk d + 1
  | (_, d) => uptoBulk d + 1
 end
def uptoSmall : (H : Type) → List (DataW H) → Bool := fun _ ds => decide (uptoBulkAll ds ≤ 1048576)
def OpenSpec.upto (s : _root_.Go.ChangeSpec) : _root_.Go.OpenSpec := { _root_.Go.OpenSpec.ofChange s with cond := some uptoSmall }

/-- 'laws.FnExactSamePairs', WHERE WHAT IT READS IS OF BULK AT MOST 1048576: true; the input reads as it did. -/
def fnExactSamePairsUptoRow : OpenClaim := { program := "ytpejbpmccmbedaa", sum := "909d258b313e02a8a4245302340cfa94db7e740616c5b89c44aacdaea603ca7b", func := "loop.example/g00851/laws.FnExactSamePairs", spec := "fnExactSamePairs", apart := false, narrowed := true }
def FnExactSamePairsUptoSaid : Prop := fnExactSamePairsUptoRow.holds Try.pinned (OpenSpec.upto fnExactSamePairsSpec)

/-- 'laws.FnExactJobsOk', WHERE WHAT IT READS IS OF BULK AT MOST 1048576: true; the input reads as it did. -/
def fnExactJobsOkUptoRow : OpenClaim := { program := "ytpejbpmccmbedaa", sum := "909d258b313e02a8a4245302340cfa94db7e740616c5b89c44aacdaea603ca7b", func := "loop.example/g00851/laws.FnExactJobsOk", spec := "fnExactJobsOk", apart := false, narrowed := true }
def FnExactJobsOkUptoSaid : Prop := fnExactJobsOkUptoRow.holds Try.pinned (OpenSpec.upto fnExactJobsOkSpec)

/-- 'laws.FnExactValueAt', WHERE WHAT IT READS IS OF BULK AT MOST 1048576: true; the input reads as it did. -/
def fnExactValueAtUptoRow : OpenClaim := { program := "ytpejbpmccmbedaa", sum := "909d258b313e02a8a4245302340cfa94db7e740616c5b89c44aacdaea603ca7b", func := "loop.example/g00851/laws.FnExactValueAt", spec := "fnExactValueAt", unfollowed := true, recurses := true, apart := false, narrowed := true }
def FnExactValueAtUptoSaid : Prop := fnExactValueAtUptoRow.holds Try.pinned (OpenSpec.upto fnExactValueAtSpec)

/-- 'laws.FnExactSameJobs', WHERE WHAT IT READS IS OF BULK AT MOST 1048576: true; the input reads as it did. -/
def fnExactSameJobsUptoRow : OpenClaim := { program := "ytpejbpmccmbedaa", sum := "909d258b313e02a8a4245302340cfa94db7e740616c5b89c44aacdaea603ca7b", func := "loop.example/g00851/laws.FnExactSameJobs", spec := "fnExactSameJobs", apart := false, narrowed := true }
def FnExactSameJobsUptoSaid : Prop := fnExactSameJobsUptoRow.holds Try.pinned (OpenSpec.upto fnExactSameJobsSpec)

/-- 'laws.FnExactPairsRow', WHERE WHAT IT READS IS OF BULK AT MOST 1048576: true; the input reads as it did. -/
def fnExactPairsRowUptoRow : OpenClaim := { program := "ytpejbpmccmbedaa", sum := "909d258b313e02a8a4245302340cfa94db7e740616c5b89c44aacdaea603ca7b", func := "loop.example/g00851/laws.FnExactPairsRow", spec := "fnExactPairsRow", apart := false, narrowed := true }
def FnExactPairsRowUptoSaid : Prop := fnExactPairsRowUptoRow.holds Try.pinned (OpenSpec.upto fnExactPairsRowSpec)

/-- 'laws.FnExactJobAt', WHERE WHAT IT READS IS OF BULK AT MOST 1048576: true; the input reads as it did. -/
def fnExactJobAtUptoRow : OpenClaim := { program := "ytpejbpmccmbedaa", sum := "909d258b313e02a8a4245302340cfa94db7e740616c5b89c44aacdaea603ca7b", func := "loop.example/g00851/laws.FnExactJobAt", spec := "fnExactJobAt", unfollowed := true, recurses := true, apart := false, narrowed := true }
def FnExactJobAtUptoSaid : Prop := fnExactJobAtUptoRow.holds Try.pinned (OpenSpec.upto fnExactJobAtSpec)

/-- 'laws.FnExactCutOut', WHERE WHAT IT READS IS OF BULK AT MOST 1048576: true; the input reads as it did. -/
def fnExactCutOutUptoRow : OpenClaim := { program := "ytpejbpmccmbedaa", sum := "909d258b313e02a8a4245302340cfa94db7e740616c5b89c44aacdaea603ca7b", func := "loop.example/g00851/laws.FnExactCutOut", spec := "fnExactCutOut", unfollowed := true, recurses := true, apart := false, narrowed := true }
def FnExactCutOutUptoSaid : Prop := fnExactCutOutUptoRow.holds Try.pinned (OpenSpec.upto fnExactCutOutSpec)

/-- 'laws.FnExactRowPairs', WHERE WHAT IT READS IS OF BULK AT MOST 1048576: true; the input reads as it did. -/
def fnExactRowPairsUptoRow : OpenClaim := { program := "ytpejbpmccmbedaa", sum := "909d258b313e02a8a4245302340cfa94db7e740616c5b89c44aacdaea603ca7b", func := "loop.example/g00851/laws.FnExactRowPairs", spec := "fnExactRowPairs", apart := false, narrowed := true }
def FnExactRowPairsUptoSaid : Prop := fnExactRowPairsUptoRow.holds Try.pinned (OpenSpec.upto fnExactRowPairsSpec)

/-- 'laws.FnExactUnlikeIn', WHERE WHAT IT READS IS OF BULK AT MOST 1048576: true; the input reads as it did. -/
def fnExactUnlikeInUptoRow : OpenClaim := { program := "ytpejbpmccmbedaa", sum := "909d258b313e02a8a4245302340cfa94db7e740616c5b89c44aacdaea603ca7b", func := "loop.example/g00851/laws.FnExactUnlikeIn", spec := "fnExactUnlikeIn", unfollowed := true, recurses := true, apart := false, narrowed := true }
def FnExactUnlikeInUptoSaid : Prop := fnExactUnlikeInUptoRow.holds Try.pinned (OpenSpec.upto fnExactUnlikeInSpec)

/-- 'laws.FnExactOrdersRow', WHERE WHAT IT READS IS OF BULK AT MOST 1048576: true; the input reads as it did. -/
def fnExactOrdersRowUptoRow : OpenClaim := { program := "ytpejbpmccmbedaa", sum := "909d258b313e02a8a4245302340cfa94db7e740616c5b89c44aacdaea603ca7b", func := "loop.example/g00851/laws.FnExactOrdersRow", spec := "fnExactOrdersRow", apart := false, narrowed := true }
def FnExactOrdersRowUptoSaid : Prop := fnExactOrdersRowUptoRow.holds Try.pinned (OpenSpec.upto fnExactOrdersRowSpec)

/-- 'laws.FnExactRowOrders', WHERE WHAT IT READS IS OF BULK AT MOST 1048576: true; the input reads as it did. -/
def fnExactRowOrdersUptoRow : OpenClaim := { program := "ytpejbpmccmbedaa", sum := "909d258b313e02a8a4245302340cfa94db7e740616c5b89c44aacdaea603ca7b", func := "loop.example/g00851/laws.FnExactRowOrders", spec := "fnExactRowOrders", apart := false, narrowed := true }
def FnExactRowOrdersUptoSaid : Prop := fnExactRowOrdersUptoRow.holds Try.pinned (OpenSpec.upto fnExactRowOrdersSpec)

/-- 'laws.FnExactPut', WHERE WHAT IT READS IS OF BULK AT MOST 1048576: true; the input reads as it did. -/
def fnExactPutUptoRow : OpenClaim := { program := "ytpejbpmccmbedaa", sum := "909d258b313e02a8a4245302340cfa94db7e740616c5b89c44aacdaea603ca7b", func := "loop.example/g00851/laws.FnExactPut", spec := "fnExactPut", inPlace := ["slices.overlaps[loop.example/g00851/impl.Pair]"], apart := false, narrowed := true }
def FnExactPutUptoSaid : Prop := fnExactPutUptoRow.holds Try.pinned (OpenSpec.upto fnExactPutSpec)

end Rows
end Go.Proofs.Ytpejbpmccmbedaa

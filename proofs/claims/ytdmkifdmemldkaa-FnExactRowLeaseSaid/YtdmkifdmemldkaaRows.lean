/-
  No cell of these rows narrows 'for every input' (looked for: loops, veiled, ifaces, maps, wideKeys, modest, calm, conditions, laid).
  DERIVED. THE GIVEN ROWS OF THIS SEAT. 12 by the template 'for every input the law returns true; each argument reads behind the call as it read before'; 0 by the template 'total and deterministic' (their statements: YtdmkifdmemldkaaTotals.lean).
  GIVEN WITH THE SEED: the statements are not yours to turn. If you find one false, say at which input.
  Laid BY PROGRAM, IN A SANDBOX (cutbox-rows.mjs): the forced cells as the released guide's own fill.sh prints them over the translation 5aadc58bc6b8c6a4… (all of the seat's roots in one cut). By AI agents, Wed Nov 11 2026. No macro, syntax, notation, axiom, sorry.
-/
import Derived.Test.YtdmkifdmemldkaaChecked
import GoSem.Claim
import GoSem.ClaimJoined
import GoSem.ClaimMapViews
import Derived.JoinedTies
import Derived.KernelRfl
namespace Go.Proofs.Ytdmkifdmemldkaa
/- THE CELL 'sum', in the pinned program and in every row, IS THE sha256 OF THE DUMP (.gsa) THAT YtdmkifdmemldkaaProg.lean LOADS. Nothing in Lean hashes anything: it is a label: what it is worth is what the hold of that sum in a sandbox is worth. -/
noncomputable def Try.pinned : Pinned := { name := "ytdmkifdmemldkaa", sum := "5aadc58bc6b8c6a4afae507e605916954b1ea364bb3a23e2c318b930a3c6382d", checked := Try.checked }
namespace Rows
def none {H : Type} : Left H := { results := [], args := [] }

/-- 'laws.FnExactJobOk': WHATEVER THE INPUT: true; the input reads as it did. -/
def fnExactJobOkSpec : ChangeSpec := { name := "fnExactJobOk", fn := fun _ => fun
  | [d] => { results := [.lit (.bool true)], args := [d] }
  | _ => none }
def fnExactJobOkRow : OpenClaim := { program := "ytdmkifdmemldkaa", sum := "5aadc58bc6b8c6a4afae507e605916954b1ea364bb3a23e2c318b930a3c6382d", func := "loop.example/g00851/laws.FnExactJobOk", spec := "fnExactJobOk", apart := false }
def FnExactJobOkSaid : Prop := fnExactJobOkRow.holds Try.pinned (OpenSpec.ofChange fnExactJobOkSpec)

/-- ITS FALSE NEIGHBOUR: 'it returns false'. Refute it at one input. -/
def fnExactJobOkWrong : ChangeSpec := { name := "fnExactJobOk", fn := fun _ => fun
  | [d] => { results := [.lit (.bool false)], args := [d] }
  | _ => none }
def FnExactJobOkWrongFalsely : Prop := fnExactJobOkRow.holds Try.pinned (OpenSpec.ofChange fnExactJobOkWrong)

/-- 'laws.FnExactLeaseOk': WHATEVER THE INPUT: true; the input reads as it did. -/
def fnExactLeaseOkSpec : ChangeSpec := { name := "fnExactLeaseOk", fn := fun _ => fun
  | [d] => { results := [.lit (.bool true)], args := [d] }
  | _ => none }
def fnExactLeaseOkRow : OpenClaim := { program := "ytdmkifdmemldkaa", sum := "5aadc58bc6b8c6a4afae507e605916954b1ea364bb3a23e2c318b930a3c6382d", func := "loop.example/g00851/laws.FnExactLeaseOk", spec := "fnExactLeaseOk", apart := false }
def FnExactLeaseOkSaid : Prop := fnExactLeaseOkRow.holds Try.pinned (OpenSpec.ofChange fnExactLeaseOkSpec)

/-- ITS FALSE NEIGHBOUR: 'it returns false'. Refute it at one input. -/
def fnExactLeaseOkWrong : ChangeSpec := { name := "fnExactLeaseOk", fn := fun _ => fun
  | [d] => { results := [.lit (.bool false)], args := [d] }
  | _ => none }
def FnExactLeaseOkWrongFalsely : Prop := fnExactLeaseOkRow.holds Try.pinned (OpenSpec.ofChange fnExactLeaseOkWrong)

/-- 'laws.FnExactSameLease': WHATEVER THE INPUT: true; the input reads as it did. -/
def fnExactSameLeaseSpec : ChangeSpec := { name := "fnExactSameLease", fn := fun _ => fun
  | [d1, d2] => { results := [.lit (.bool true)], args := [d1, d2] }
  | _ => none }
def fnExactSameLeaseRow : OpenClaim := { program := "ytdmkifdmemldkaa", sum := "5aadc58bc6b8c6a4afae507e605916954b1ea364bb3a23e2c318b930a3c6382d", func := "loop.example/g00851/laws.FnExactSameLease", spec := "fnExactSameLease", apart := false }
def FnExactSameLeaseSaid : Prop := fnExactSameLeaseRow.holds Try.pinned (OpenSpec.ofChange fnExactSameLeaseSpec)

/-- ITS FALSE NEIGHBOUR: 'it returns false'. Refute it at one input. -/
def fnExactSameLeaseWrong : ChangeSpec := { name := "fnExactSameLease", fn := fun _ => fun
  | [d1, d2] => { results := [.lit (.bool false)], args := [d1, d2] }
  | _ => none }
def FnExactSameLeaseWrongFalsely : Prop := fnExactSameLeaseRow.holds Try.pinned (OpenSpec.ofChange fnExactSameLeaseWrong)

/-- 'laws.FnExactFreeAt': WHATEVER THE INPUT: true; the input reads as it did. -/
def fnExactFreeAtSpec : ChangeSpec := { name := "fnExactFreeAt", fn := fun _ => fun
  | [d1, d2] => { results := [.lit (.bool true)], args := [d1, d2] }
  | _ => none }
def fnExactFreeAtRow : OpenClaim := { program := "ytdmkifdmemldkaa", sum := "5aadc58bc6b8c6a4afae507e605916954b1ea364bb3a23e2c318b930a3c6382d", func := "loop.example/g00851/laws.FnExactFreeAt", spec := "fnExactFreeAt", apart := false }
def FnExactFreeAtSaid : Prop := fnExactFreeAtRow.holds Try.pinned (OpenSpec.ofChange fnExactFreeAtSpec)

/-- ITS FALSE NEIGHBOUR: 'it returns false'. Refute it at one input. -/
def fnExactFreeAtWrong : ChangeSpec := { name := "fnExactFreeAt", fn := fun _ => fun
  | [d1, d2] => { results := [.lit (.bool false)], args := [d1, d2] }
  | _ => none }
def FnExactFreeAtWrongFalsely : Prop := fnExactFreeAtRow.holds Try.pinned (OpenSpec.ofChange fnExactFreeAtWrong)

/-- 'laws.FnExactHoldsAt': WHATEVER THE INPUT: true; the input reads as it did. -/
def fnExactHoldsAtSpec : ChangeSpec := { name := "fnExactHoldsAt", fn := fun _ => fun
  | [d1, d2, d3, d4] => { results := [.lit (.bool true)], args := [d1, d2, d3, d4] }
  | _ => none }
def fnExactHoldsAtRow : OpenClaim := { program := "ytdmkifdmemldkaa", sum := "5aadc58bc6b8c6a4afae507e605916954b1ea364bb3a23e2c318b930a3c6382d", func := "loop.example/g00851/laws.FnExactHoldsAt", spec := "fnExactHoldsAt", apart := false }
def FnExactHoldsAtSaid : Prop := fnExactHoldsAtRow.holds Try.pinned (OpenSpec.ofChange fnExactHoldsAtSpec)

/-- ITS FALSE NEIGHBOUR: 'it returns false'. Refute it at one input. -/
def fnExactHoldsAtWrong : ChangeSpec := { name := "fnExactHoldsAt", fn := fun _ => fun
  | [d1, d2, d3, d4] => { results := [.lit (.bool false)], args := [d1, d2, d3, d4] }
  | _ => none }
def FnExactHoldsAtWrongFalsely : Prop := fnExactHoldsAtRow.holds Try.pinned (OpenSpec.ofChange fnExactHoldsAtWrong)

/-- 'laws.FnExactLeftAt': WHATEVER THE INPUT: true; the input reads as it did. -/
def fnExactLeftAtSpec : ChangeSpec := { name := "fnExactLeftAt", fn := fun _ => fun
  | [d1, d2] => { results := [.lit (.bool true)], args := [d1, d2] }
  | _ => none }
def fnExactLeftAtRow : OpenClaim := { program := "ytdmkifdmemldkaa", sum := "5aadc58bc6b8c6a4afae507e605916954b1ea364bb3a23e2c318b930a3c6382d", func := "loop.example/g00851/laws.FnExactLeftAt", spec := "fnExactLeftAt", apart := false }
def FnExactLeftAtSaid : Prop := fnExactLeftAtRow.holds Try.pinned (OpenSpec.ofChange fnExactLeftAtSpec)

/-- ITS FALSE NEIGHBOUR: 'it returns false'. Refute it at one input. -/
def fnExactLeftAtWrong : ChangeSpec := { name := "fnExactLeftAt", fn := fun _ => fun
  | [d1, d2] => { results := [.lit (.bool false)], args := [d1, d2] }
  | _ => none }
def FnExactLeftAtWrongFalsely : Prop := fnExactLeftAtRow.holds Try.pinned (OpenSpec.ofChange fnExactLeftAtWrong)

/-- 'laws.FnExactLeaseRow': WHATEVER THE INPUT: true; the input reads as it did. -/
def fnExactLeaseRowSpec : ChangeSpec := { name := "fnExactLeaseRow", fn := fun _ => fun
  | [d] => { results := [.lit (.bool true)], args := [d] }
  | _ => none }
def fnExactLeaseRowRow : OpenClaim := { program := "ytdmkifdmemldkaa", sum := "5aadc58bc6b8c6a4afae507e605916954b1ea364bb3a23e2c318b930a3c6382d", func := "loop.example/g00851/laws.FnExactLeaseRow", spec := "fnExactLeaseRow", apart := false }
def FnExactLeaseRowSaid : Prop := fnExactLeaseRowRow.holds Try.pinned (OpenSpec.ofChange fnExactLeaseRowSpec)

/-- ITS FALSE NEIGHBOUR: 'it returns false'. Refute it at one input. -/
def fnExactLeaseRowWrong : ChangeSpec := { name := "fnExactLeaseRow", fn := fun _ => fun
  | [d] => { results := [.lit (.bool false)], args := [d] }
  | _ => none }
def FnExactLeaseRowWrongFalsely : Prop := fnExactLeaseRowRow.holds Try.pinned (OpenSpec.ofChange fnExactLeaseRowWrong)

/-- 'laws.FnExactRowLease': WHATEVER THE INPUT: true; the input reads as it did. -/
def fnExactRowLeaseSpec : ChangeSpec := { name := "fnExactRowLease", fn := fun _ => fun
  | [d] => { results := [.lit (.bool true)], args := [d] }
  | _ => none }
def fnExactRowLeaseRow : OpenClaim := { program := "ytdmkifdmemldkaa", sum := "5aadc58bc6b8c6a4afae507e605916954b1ea364bb3a23e2c318b930a3c6382d", func := "loop.example/g00851/laws.FnExactRowLease", spec := "fnExactRowLease", apart := false }
def FnExactRowLeaseSaid : Prop := fnExactRowLeaseRow.holds Try.pinned (OpenSpec.ofChange fnExactRowLeaseSpec)

/-- ITS FALSE NEIGHBOUR: 'it returns false'. Refute it at one input. -/
def fnExactRowLeaseWrong : ChangeSpec := { name := "fnExactRowLease", fn := fun _ => fun
  | [d] => { results := [.lit (.bool false)], args := [d] }
  | _ => none }
def FnExactRowLeaseWrongFalsely : Prop := fnExactRowLeaseRow.holds Try.pinned (OpenSpec.ofChange fnExactRowLeaseWrong)

/-- 'laws.FnExactPairsOk': WHATEVER THE INPUT: true; the input reads as it did. -/
def fnExactPairsOkSpec : ChangeSpec := { name := "fnExactPairsOk", fn := fun _ => fun
  | [d] => { results := [.lit (.bool true)], args := [d] }
  | _ => none }
def fnExactPairsOkRow : OpenClaim := { program := "ytdmkifdmemldkaa", sum := "5aadc58bc6b8c6a4afae507e605916954b1ea364bb3a23e2c318b930a3c6382d", func := "loop.example/g00851/laws.FnExactPairsOk", spec := "fnExactPairsOk", apart := false }
def FnExactPairsOkSaid : Prop := fnExactPairsOkRow.holds Try.pinned (OpenSpec.ofChange fnExactPairsOkSpec)

/-- ITS FALSE NEIGHBOUR: 'it returns false'. Refute it at one input. -/
def fnExactPairsOkWrong : ChangeSpec := { name := "fnExactPairsOk", fn := fun _ => fun
  | [d] => { results := [.lit (.bool false)], args := [d] }
  | _ => none }
def FnExactPairsOkWrongFalsely : Prop := fnExactPairsOkRow.holds Try.pinned (OpenSpec.ofChange fnExactPairsOkWrong)

/-- 'laws.FnExactGranted': WHATEVER THE INPUT: true; the input reads as it did. -/
def fnExactGrantedSpec : ChangeSpec := { name := "fnExactGranted", fn := fun _ => fun
  | [d1, d2, d3, d4] => { results := [.lit (.bool true)], args := [d1, d2, d3, d4] }
  | _ => none }
def fnExactGrantedRow : OpenClaim := { program := "ytdmkifdmemldkaa", sum := "5aadc58bc6b8c6a4afae507e605916954b1ea364bb3a23e2c318b930a3c6382d", func := "loop.example/g00851/laws.FnExactGranted", spec := "fnExactGranted", apart := false }
def FnExactGrantedSaid : Prop := fnExactGrantedRow.holds Try.pinned (OpenSpec.ofChange fnExactGrantedSpec)

/-- ITS FALSE NEIGHBOUR: 'it returns false'. Refute it at one input. -/
def fnExactGrantedWrong : ChangeSpec := { name := "fnExactGranted", fn := fun _ => fun
  | [d1, d2, d3, d4] => { results := [.lit (.bool false)], args := [d1, d2, d3, d4] }
  | _ => none }
def FnExactGrantedWrongFalsely : Prop := fnExactGrantedRow.holds Try.pinned (OpenSpec.ofChange fnExactGrantedWrong)

/-- 'laws.FnLeaseOne': WHATEVER THE INPUT: true; the input reads as it did. -/
def fnLeaseOneSpec : ChangeSpec := { name := "fnLeaseOne", fn := fun _ => fun
  | [d] => { results := [.lit (.bool true)], args := [d] }
  | _ => none }
def fnLeaseOneRow : OpenClaim := { program := "ytdmkifdmemldkaa", sum := "5aadc58bc6b8c6a4afae507e605916954b1ea364bb3a23e2c318b930a3c6382d", func := "loop.example/g00851/laws.FnLeaseOne", spec := "fnLeaseOne", apart := false }
def FnLeaseOneSaid : Prop := fnLeaseOneRow.holds Try.pinned (OpenSpec.ofChange fnLeaseOneSpec)

/-- ITS FALSE NEIGHBOUR: 'it returns false'. Refute it at one input. -/
def fnLeaseOneWrong : ChangeSpec := { name := "fnLeaseOne", fn := fun _ => fun
  | [d] => { results := [.lit (.bool false)], args := [d] }
  | _ => none }
def FnLeaseOneWrongFalsely : Prop := fnLeaseOneRow.holds Try.pinned (OpenSpec.ofChange fnLeaseOneWrong)

/-- 'laws.FnLeaseBack': WHATEVER THE INPUT: true; the input reads as it did. -/
def fnLeaseBackSpec : ChangeSpec := { name := "fnLeaseBack", fn := fun _ => fun
  | [d] => { results := [.lit (.bool true)], args := [d] }
  | _ => none }
def fnLeaseBackRow : OpenClaim := { program := "ytdmkifdmemldkaa", sum := "5aadc58bc6b8c6a4afae507e605916954b1ea364bb3a23e2c318b930a3c6382d", func := "loop.example/g00851/laws.FnLeaseBack", spec := "fnLeaseBack", apart := false }
def FnLeaseBackSaid : Prop := fnLeaseBackRow.holds Try.pinned (OpenSpec.ofChange fnLeaseBackSpec)

/-- ITS FALSE NEIGHBOUR: 'it returns false'. Refute it at one input. -/
def fnLeaseBackWrong : ChangeSpec := { name := "fnLeaseBack", fn := fun _ => fun
  | [d] => { results := [.lit (.bool false)], args := [d] }
  | _ => none }
def FnLeaseBackWrongFalsely : Prop := fnLeaseBackRow.holds Try.pinned (OpenSpec.ofChange fnLeaseBackWrong)

/- THE SECOND FORM. 'bulk': how many values and letters a reading holds, each counted each time it is reached (what is shared counts as often as it is met; a slice's spare places count too). A statement '..UptoSaid' is the law's where the arguments, and the package variables that the reading takes, are together of bulk at most 1048576: NARROWER than '..Said'. Prove '..Said' where nothing that the law and all that it calls make is longer than what came in: it says more and counts as full. Else prove '..UptoSaid'. A law counts once. -/
mutual
def uptoBulk {H : Type} : DataW H → Nat
  | .lit (.string bytes) => bytes.length + 1
  | .lit _ => 1
  | .nil => 1
  | .ptr d => uptoBulk d + 1
  | .slice elems spare => uptoBulkAll elems + uptoBulkAll spare + 1
  | .agg parts => uptoBulkAll parts + 1
  | .iface _ d => uptoBulk d + 1
  | .map entries => uptoBulkEntries entries + 1
  | .held _ => 1
def uptoBulkAll {H : Type} : List (DataW H) → Nat
  | [] => 0
  | d :: r => uptoBulk d + uptoBulkAll r
def uptoBulkEntries {H : Type} : List (Lit × DataW H) → Nat
  | [] => 0
  | x :: r => uptoBulkEntry x + uptoBulkEntries r
def uptoBulkEntry {H : Type} : Lit × DataW H → Nat
  | (.string bytes, d) => bytes.length + uptoBulk d + 1
  | (_, d) => uptoBulk d + 1
 end
def uptoSmall : (H : Type) → List (DataW H) → Bool := fun _ ds => decide (uptoBulkAll ds ≤ 1048576)
def OpenSpec.upto (s : _root_.Go.ChangeSpec) : _root_.Go.OpenSpec := { _root_.Go.OpenSpec.ofChange s with cond := some uptoSmall }

/-- 'laws.FnExactJobOk', WHERE WHAT IT READS IS OF BULK AT MOST 1048576: true; the input reads as it did. -/
def fnExactJobOkUptoRow : OpenClaim := { program := "ytdmkifdmemldkaa", sum := "5aadc58bc6b8c6a4afae507e605916954b1ea364bb3a23e2c318b930a3c6382d", func := "loop.example/g00851/laws.FnExactJobOk", spec := "fnExactJobOk", apart := false, narrowed := true }
def FnExactJobOkUptoSaid : Prop := fnExactJobOkUptoRow.holds Try.pinned (OpenSpec.upto fnExactJobOkSpec)

/-- 'laws.FnExactLeaseOk', WHERE WHAT IT READS IS OF BULK AT MOST 1048576: true; the input reads as it did. -/
def fnExactLeaseOkUptoRow : OpenClaim := { program := "ytdmkifdmemldkaa", sum := "5aadc58bc6b8c6a4afae507e605916954b1ea364bb3a23e2c318b930a3c6382d", func := "loop.example/g00851/laws.FnExactLeaseOk", spec := "fnExactLeaseOk", apart := false, narrowed := true }
def FnExactLeaseOkUptoSaid : Prop := fnExactLeaseOkUptoRow.holds Try.pinned (OpenSpec.upto fnExactLeaseOkSpec)

/-- 'laws.FnExactSameLease', WHERE WHAT IT READS IS OF BULK AT MOST 1048576: true; the input reads as it did. -/
def fnExactSameLeaseUptoRow : OpenClaim := { program := "ytdmkifdmemldkaa", sum := "5aadc58bc6b8c6a4afae507e605916954b1ea364bb3a23e2c318b930a3c6382d", func := "loop.example/g00851/laws.FnExactSameLease", spec := "fnExactSameLease", apart := false, narrowed := true }
def FnExactSameLeaseUptoSaid : Prop := fnExactSameLeaseUptoRow.holds Try.pinned (OpenSpec.upto fnExactSameLeaseSpec)

/-- 'laws.FnExactFreeAt', WHERE WHAT IT READS IS OF BULK AT MOST 1048576: true; the input reads as it did. -/
def fnExactFreeAtUptoRow : OpenClaim := { program := "ytdmkifdmemldkaa", sum := "5aadc58bc6b8c6a4afae507e605916954b1ea364bb3a23e2c318b930a3c6382d", func := "loop.example/g00851/laws.FnExactFreeAt", spec := "fnExactFreeAt", apart := false, narrowed := true }
def FnExactFreeAtUptoSaid : Prop := fnExactFreeAtUptoRow.holds Try.pinned (OpenSpec.upto fnExactFreeAtSpec)

/-- 'laws.FnExactHoldsAt', WHERE WHAT IT READS IS OF BULK AT MOST 1048576: true; the input reads as it did. -/
def fnExactHoldsAtUptoRow : OpenClaim := { program := "ytdmkifdmemldkaa", sum := "5aadc58bc6b8c6a4afae507e605916954b1ea364bb3a23e2c318b930a3c6382d", func := "loop.example/g00851/laws.FnExactHoldsAt", spec := "fnExactHoldsAt", apart := false, narrowed := true }
def FnExactHoldsAtUptoSaid : Prop := fnExactHoldsAtUptoRow.holds Try.pinned (OpenSpec.upto fnExactHoldsAtSpec)

/-- 'laws.FnExactLeftAt', WHERE WHAT IT READS IS OF BULK AT MOST 1048576: true; the input reads as it did. -/
def fnExactLeftAtUptoRow : OpenClaim := { program := "ytdmkifdmemldkaa", sum := "5aadc58bc6b8c6a4afae507e605916954b1ea364bb3a23e2c318b930a3c6382d", func := "loop.example/g00851/laws.FnExactLeftAt", spec := "fnExactLeftAt", apart := false, narrowed := true }
def FnExactLeftAtUptoSaid : Prop := fnExactLeftAtUptoRow.holds Try.pinned (OpenSpec.upto fnExactLeftAtSpec)

/-- 'laws.FnExactLeaseRow', WHERE WHAT IT READS IS OF BULK AT MOST 1048576: true; the input reads as it did. -/
def fnExactLeaseRowUptoRow : OpenClaim := { program := "ytdmkifdmemldkaa", sum := "5aadc58bc6b8c6a4afae507e605916954b1ea364bb3a23e2c318b930a3c6382d", func := "loop.example/g00851/laws.FnExactLeaseRow", spec := "fnExactLeaseRow", apart := false, narrowed := true }
def FnExactLeaseRowUptoSaid : Prop := fnExactLeaseRowUptoRow.holds Try.pinned (OpenSpec.upto fnExactLeaseRowSpec)

/-- 'laws.FnExactRowLease', WHERE WHAT IT READS IS OF BULK AT MOST 1048576: true; the input reads as it did. -/
def fnExactRowLeaseUptoRow : OpenClaim := { program := "ytdmkifdmemldkaa", sum := "5aadc58bc6b8c6a4afae507e605916954b1ea364bb3a23e2c318b930a3c6382d", func := "loop.example/g00851/laws.FnExactRowLease", spec := "fnExactRowLease", apart := false, narrowed := true }
def FnExactRowLeaseUptoSaid : Prop := fnExactRowLeaseUptoRow.holds Try.pinned (OpenSpec.upto fnExactRowLeaseSpec)

/-- 'laws.FnExactPairsOk', WHERE WHAT IT READS IS OF BULK AT MOST 1048576: true; the input reads as it did. -/
def fnExactPairsOkUptoRow : OpenClaim := { program := "ytdmkifdmemldkaa", sum := "5aadc58bc6b8c6a4afae507e605916954b1ea364bb3a23e2c318b930a3c6382d", func := "loop.example/g00851/laws.FnExactPairsOk", spec := "fnExactPairsOk", apart := false, narrowed := true }
def FnExactPairsOkUptoSaid : Prop := fnExactPairsOkUptoRow.holds Try.pinned (OpenSpec.upto fnExactPairsOkSpec)

/-- 'laws.FnExactGranted', WHERE WHAT IT READS IS OF BULK AT MOST 1048576: true; the input reads as it did. -/
def fnExactGrantedUptoRow : OpenClaim := { program := "ytdmkifdmemldkaa", sum := "5aadc58bc6b8c6a4afae507e605916954b1ea364bb3a23e2c318b930a3c6382d", func := "loop.example/g00851/laws.FnExactGranted", spec := "fnExactGranted", apart := false, narrowed := true }
def FnExactGrantedUptoSaid : Prop := fnExactGrantedUptoRow.holds Try.pinned (OpenSpec.upto fnExactGrantedSpec)

/-- 'laws.FnLeaseOne', WHERE WHAT IT READS IS OF BULK AT MOST 1048576: true; the input reads as it did. -/
def fnLeaseOneUptoRow : OpenClaim := { program := "ytdmkifdmemldkaa", sum := "5aadc58bc6b8c6a4afae507e605916954b1ea364bb3a23e2c318b930a3c6382d", func := "loop.example/g00851/laws.FnLeaseOne", spec := "fnLeaseOne", apart := false, narrowed := true }
def FnLeaseOneUptoSaid : Prop := fnLeaseOneUptoRow.holds Try.pinned (OpenSpec.upto fnLeaseOneSpec)

/-- 'laws.FnLeaseBack', WHERE WHAT IT READS IS OF BULK AT MOST 1048576: true; the input reads as it did. -/
def fnLeaseBackUptoRow : OpenClaim := { program := "ytdmkifdmemldkaa", sum := "5aadc58bc6b8c6a4afae507e605916954b1ea364bb3a23e2c318b930a3c6382d", func := "loop.example/g00851/laws.FnLeaseBack", spec := "fnLeaseBack", apart := false, narrowed := true }
def FnLeaseBackUptoSaid : Prop := fnLeaseBackUptoRow.holds Try.pinned (OpenSpec.upto fnLeaseBackSpec)

end Rows
end Go.Proofs.Ytdmkifdmemldkaa

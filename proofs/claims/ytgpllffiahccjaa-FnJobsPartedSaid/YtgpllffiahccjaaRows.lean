/-
  No cell of these rows narrows 'for every input' (looked for: loops, veiled, ifaces, maps, wideKeys, modest, calm, conditions, laid).
  DERIVED. THE GIVEN ROWS OF THIS SEAT. 10 by the template 'for every input the law returns true; each argument reads behind the call as it read before'; 0 by the template 'total and deterministic' (their statements: YtgpllffiahccjaaTotals.lean).
  GIVEN WITH THE SEED: the statements are not yours to turn. If you find one false, say at which input.
  Laid BY PROGRAM, IN A SANDBOX (cutbox-rows.mjs): the forced cells as the released guide's own fill.sh prints them over the translation b0919810b8813e11… (all of the seat's roots in one cut). By AI agents, Wed Nov 11 2026. No macro, syntax, notation, axiom, sorry.
-/
import Derived.Test.YtgpllffiahccjaaChecked
import GoSem.Claim
import GoSem.ClaimJoined
import GoSem.ClaimMapViews
import Derived.JoinedTies
import Derived.KernelRfl
namespace Go.Proofs.Ytgpllffiahccjaa
/- THE CELL 'sum', in the pinned program and in every row, IS THE sha256 OF THE DUMP (.gsa) THAT YtgpllffiahccjaaProg.lean LOADS. Nothing in Lean hashes anything: it is a label: what it is worth is what the hold of that sum in a sandbox is worth. -/
noncomputable def Try.pinned : Pinned := { name := "ytgpllffiahccjaa", sum := "b0919810b8813e11f44ce0ac756f5fed5ab37a1eb54226f97d82331b4260c6b2", checked := Try.checked }
namespace Rows
def none {H : Type} : Left H := { results := [], args := [] }

/-- 'laws.FnLeaseOne': WHATEVER THE INPUT: true; the input reads as it did. -/
def fnLeaseOneSpec : ChangeSpec := { name := "fnLeaseOne", fn := fun _ => fun
  | [d] => { results := [.lit (.bool true)], args := [d] }
  | _ => none }
def fnLeaseOneRow : OpenClaim := { program := "ytgpllffiahccjaa", sum := "b0919810b8813e11f44ce0ac756f5fed5ab37a1eb54226f97d82331b4260c6b2", func := "loop.example/g00851/laws.FnLeaseOne", spec := "fnLeaseOne", apart := false }
def FnLeaseOneSaid : Prop := fnLeaseOneRow.holds Try.pinned (OpenSpec.ofChange fnLeaseOneSpec)

/-- ITS FALSE NEIGHBOUR: 'it returns false'. Refute it at one input. -/
def fnLeaseOneWrong : ChangeSpec := { name := "fnLeaseOne", fn := fun _ => fun
  | [d] => { results := [.lit (.bool false)], args := [d] }
  | _ => none }
def FnLeaseOneWrongFalsely : Prop := fnLeaseOneRow.holds Try.pinned (OpenSpec.ofChange fnLeaseOneWrong)

/-- 'laws.FnLeaseBack': WHATEVER THE INPUT: true; the input reads as it did. -/
def fnLeaseBackSpec : ChangeSpec := { name := "fnLeaseBack", fn := fun _ => fun
  | [d] => { results := [.lit (.bool true)], args := [d] }
  | _ => none }
def fnLeaseBackRow : OpenClaim := { program := "ytgpllffiahccjaa", sum := "b0919810b8813e11f44ce0ac756f5fed5ab37a1eb54226f97d82331b4260c6b2", func := "loop.example/g00851/laws.FnLeaseBack", spec := "fnLeaseBack", apart := false }
def FnLeaseBackSaid : Prop := fnLeaseBackRow.holds Try.pinned (OpenSpec.ofChange fnLeaseBackSpec)

/-- ITS FALSE NEIGHBOUR: 'it returns false'. Refute it at one input. -/
def fnLeaseBackWrong : ChangeSpec := { name := "fnLeaseBack", fn := fun _ => fun
  | [d] => { results := [.lit (.bool false)], args := [d] }
  | _ => none }
def FnLeaseBackWrongFalsely : Prop := fnLeaseBackRow.holds Try.pinned (OpenSpec.ofChange fnLeaseBackWrong)

/-- 'laws.FnPairsBack': WHATEVER THE INPUT: true; the input reads as it did. -/
def fnPairsBackSpec : ChangeSpec := { name := "fnPairsBack", fn := fun _ => fun
  | [d] => { results := [.lit (.bool true)], args := [d] }
  | _ => none }
def fnPairsBackRow : OpenClaim := { program := "ytgpllffiahccjaa", sum := "b0919810b8813e11f44ce0ac756f5fed5ab37a1eb54226f97d82331b4260c6b2", func := "loop.example/g00851/laws.FnPairsBack", spec := "fnPairsBack", unfollowed := true, recurses := true, apart := false }
def FnPairsBackSaid : Prop := fnPairsBackRow.holds Try.pinned (OpenSpec.ofChange fnPairsBackSpec)

/-- ITS FALSE NEIGHBOUR: 'it returns false'. Refute it at one input. -/
def fnPairsBackWrong : ChangeSpec := { name := "fnPairsBack", fn := fun _ => fun
  | [d] => { results := [.lit (.bool false)], args := [d] }
  | _ => none }
def FnPairsBackWrongFalsely : Prop := fnPairsBackRow.holds Try.pinned (OpenSpec.ofChange fnPairsBackWrong)

/-- 'laws.FnJobsBack': WHATEVER THE INPUT: true; the input reads as it did. -/
def fnJobsBackSpec : ChangeSpec := { name := "fnJobsBack", fn := fun _ => fun
  | [d] => { results := [.lit (.bool true)], args := [d] }
  | _ => none }
def fnJobsBackRow : OpenClaim := { program := "ytgpllffiahccjaa", sum := "b0919810b8813e11f44ce0ac756f5fed5ab37a1eb54226f97d82331b4260c6b2", func := "loop.example/g00851/laws.FnJobsBack", spec := "fnJobsBack", apart := false }
def FnJobsBackSaid : Prop := fnJobsBackRow.holds Try.pinned (OpenSpec.ofChange fnJobsBackSpec)

/-- ITS FALSE NEIGHBOUR: 'it returns false'. Refute it at one input. -/
def fnJobsBackWrong : ChangeSpec := { name := "fnJobsBack", fn := fun _ => fun
  | [d] => { results := [.lit (.bool false)], args := [d] }
  | _ => none }
def FnJobsBackWrongFalsely : Prop := fnJobsBackRow.holds Try.pinned (OpenSpec.ofChange fnJobsBackWrong)

/-- 'laws.FnPut': WHATEVER THE INPUT: true; the input reads as it did. -/
def fnPutSpec : ChangeSpec := { name := "fnPut", fn := fun _ => fun
  | [d] => { results := [.lit (.bool true)], args := [d] }
  | _ => none }
def fnPutRow : OpenClaim := { program := "ytgpllffiahccjaa", sum := "b0919810b8813e11f44ce0ac756f5fed5ab37a1eb54226f97d82331b4260c6b2", func := "loop.example/g00851/laws.FnPut", spec := "fnPut", inPlace := ["slices.overlaps[loop.example/g00851/impl.Pair]"], unfollowed := true, recurses := true, apart := false }
def FnPutSaid : Prop := fnPutRow.holds Try.pinned (OpenSpec.ofChange fnPutSpec)

/-- ITS FALSE NEIGHBOUR: 'it returns false'. Refute it at one input. -/
def fnPutWrong : ChangeSpec := { name := "fnPut", fn := fun _ => fun
  | [d] => { results := [.lit (.bool false)], args := [d] }
  | _ => none }
def FnPutWrongFalsely : Prop := fnPutRow.holds Try.pinned (OpenSpec.ofChange fnPutWrong)

/-- 'laws.FnJobOnce': WHATEVER THE INPUT: true; the input reads as it did. -/
def fnJobOnceSpec : ChangeSpec := { name := "fnJobOnce", fn := fun _ => fun
  | [d] => { results := [.lit (.bool true)], args := [d] }
  | _ => none }
def fnJobOnceRow : OpenClaim := { program := "ytgpllffiahccjaa", sum := "b0919810b8813e11f44ce0ac756f5fed5ab37a1eb54226f97d82331b4260c6b2", func := "loop.example/g00851/laws.FnJobOnce", spec := "fnJobOnce", inPlace := ["slices.overlaps[loop.example/g00851/impl.Job]"], unfollowed := true, recurses := true, apart := false }
def FnJobOnceSaid : Prop := fnJobOnceRow.holds Try.pinned (OpenSpec.ofChange fnJobOnceSpec)

/-- ITS FALSE NEIGHBOUR: 'it returns false'. Refute it at one input. -/
def fnJobOnceWrong : ChangeSpec := { name := "fnJobOnce", fn := fun _ => fun
  | [d] => { results := [.lit (.bool false)], args := [d] }
  | _ => none }
def FnJobOnceWrongFalsely : Prop := fnJobOnceRow.holds Try.pinned (OpenSpec.ofChange fnJobOnceWrong)

/-- 'laws.FnExactOpenJobs': WHATEVER THE INPUT: true; the input reads as it did. -/
def fnExactOpenJobsSpec : ChangeSpec := { name := "fnExactOpenJobs", fn := fun _ => fun
  | [d] => { results := [.lit (.bool true)], args := [d] }
  | _ => none }
def fnExactOpenJobsRow : OpenClaim := { program := "ytgpllffiahccjaa", sum := "b0919810b8813e11f44ce0ac756f5fed5ab37a1eb54226f97d82331b4260c6b2", func := "loop.example/g00851/laws.FnExactOpenJobs", spec := "fnExactOpenJobs", unfollowed := true, recurses := true, apart := false }
def FnExactOpenJobsSaid : Prop := fnExactOpenJobsRow.holds Try.pinned (OpenSpec.ofChange fnExactOpenJobsSpec)

/-- ITS FALSE NEIGHBOUR: 'it returns false'. Refute it at one input. -/
def fnExactOpenJobsWrong : ChangeSpec := { name := "fnExactOpenJobs", fn := fun _ => fun
  | [d] => { results := [.lit (.bool false)], args := [d] }
  | _ => none }
def FnExactOpenJobsWrongFalsely : Prop := fnExactOpenJobsRow.holds Try.pinned (OpenSpec.ofChange fnExactOpenJobsWrong)

/-- 'laws.FnExactFiredJobs': WHATEVER THE INPUT: true; the input reads as it did. -/
def fnExactFiredJobsSpec : ChangeSpec := { name := "fnExactFiredJobs", fn := fun _ => fun
  | [d] => { results := [.lit (.bool true)], args := [d] }
  | _ => none }
def fnExactFiredJobsRow : OpenClaim := { program := "ytgpllffiahccjaa", sum := "b0919810b8813e11f44ce0ac756f5fed5ab37a1eb54226f97d82331b4260c6b2", func := "loop.example/g00851/laws.FnExactFiredJobs", spec := "fnExactFiredJobs", unfollowed := true, recurses := true, apart := false }
def FnExactFiredJobsSaid : Prop := fnExactFiredJobsRow.holds Try.pinned (OpenSpec.ofChange fnExactFiredJobsSpec)

/-- ITS FALSE NEIGHBOUR: 'it returns false'. Refute it at one input. -/
def fnExactFiredJobsWrong : ChangeSpec := { name := "fnExactFiredJobs", fn := fun _ => fun
  | [d] => { results := [.lit (.bool false)], args := [d] }
  | _ => none }
def FnExactFiredJobsWrongFalsely : Prop := fnExactFiredJobsRow.holds Try.pinned (OpenSpec.ofChange fnExactFiredJobsWrong)

/-- 'laws.FnExactDueJobs': WHATEVER THE INPUT: true; the input reads as it did. -/
def fnExactDueJobsSpec : ChangeSpec := { name := "fnExactDueJobs", fn := fun _ => fun
  | [d1, d2] => { results := [.lit (.bool true)], args := [d1, d2] }
  | _ => none }
def fnExactDueJobsRow : OpenClaim := { program := "ytgpllffiahccjaa", sum := "b0919810b8813e11f44ce0ac756f5fed5ab37a1eb54226f97d82331b4260c6b2", func := "loop.example/g00851/laws.FnExactDueJobs", spec := "fnExactDueJobs", unfollowed := true, recurses := true, apart := false }
def FnExactDueJobsSaid : Prop := fnExactDueJobsRow.holds Try.pinned (OpenSpec.ofChange fnExactDueJobsSpec)

/-- ITS FALSE NEIGHBOUR: 'it returns false'. Refute it at one input. -/
def fnExactDueJobsWrong : ChangeSpec := { name := "fnExactDueJobs", fn := fun _ => fun
  | [d1, d2] => { results := [.lit (.bool false)], args := [d1, d2] }
  | _ => none }
def FnExactDueJobsWrongFalsely : Prop := fnExactDueJobsRow.holds Try.pinned (OpenSpec.ofChange fnExactDueJobsWrong)

/-- 'laws.FnJobsParted': WHATEVER THE INPUT: true; the input reads as it did. -/
def fnJobsPartedSpec : ChangeSpec := { name := "fnJobsParted", fn := fun _ => fun
  | [d] => { results := [.lit (.bool true)], args := [d] }
  | _ => none }
def fnJobsPartedRow : OpenClaim := { program := "ytgpllffiahccjaa", sum := "b0919810b8813e11f44ce0ac756f5fed5ab37a1eb54226f97d82331b4260c6b2", func := "loop.example/g00851/laws.FnJobsParted", spec := "fnJobsParted", unfollowed := true, recurses := true, apart := false }
def FnJobsPartedSaid : Prop := fnJobsPartedRow.holds Try.pinned (OpenSpec.ofChange fnJobsPartedSpec)

/-- ITS FALSE NEIGHBOUR: 'it returns false'. Refute it at one input. -/
def fnJobsPartedWrong : ChangeSpec := { name := "fnJobsParted", fn := fun _ => fun
  | [d] => { results := [.lit (.bool false)], args := [d] }
  | _ => none }
def FnJobsPartedWrongFalsely : Prop := fnJobsPartedRow.holds Try.pinned (OpenSpec.ofChange fnJobsPartedWrong)

/- THE SECOND FORM. 'bulk': how many values and letters a reading holds, each counted each time it is reached (what is shared counts as often as it is met; a slice's spare places count too). A statement '..UptoSaid' is the law's where the arguments, and the package variables that the reading takes, are together of bulk at most 1048576: NARROWER than '..Said'. Prove '..Said' where nothing that the law and all that it calls make is longer than what came in: it says more and counts as full. Else prove '..UptoSaid'. A law counts once. -/
mutual
def uptoBulk {H : Type} : DataW H → Nat
  | .lit (.string bytes) => bytes.length + 1
  | .lit _ => 1
  | .nil => 1
  | .ptr d => uptoBulk d + 1
  | .slice elems spare => uptoBulkAll elems + uptoBulkAll spare + 1
  | .agg parts => uptoBulkAll parts + 1
  | .iface _ d => uptoBulk d + 1
  | .map entries => uptoBulkEntries entries + 1
  | .held _ => 1
def uptoBulkAll {H : Type} : List (DataW H) → Nat
  | [] => 0
  | d :: r => uptoBulk d + uptoBulkAll r
def uptoBulkEntries {H : Type} : List (Lit × DataW H) → Nat
  | [] => 0
  | x :: r => uptoBulkEntry x + uptoBulkEntries r
def uptoBulkEntry {H : Type} : Lit × DataW H → Nat
  | (.string bytes, d) => bytes.length + uptoBulk d + 1
  | (_, d) => uptoBulk d + 1
 end
def uptoSmall : (H : Type) → List (DataW H) → Bool := fun _ ds => decide (uptoBulkAll ds ≤ 1048576)
def OpenSpec.upto (s : _root_.Go.ChangeSpec) : _root_.Go.OpenSpec := { _root_.Go.OpenSpec.ofChange s with cond := some uptoSmall }

/-- 'laws.FnLeaseOne', WHERE WHAT IT READS IS OF BULK AT MOST 1048576: true; the input reads as it did. -/
def fnLeaseOneUptoRow : OpenClaim := { program := "ytgpllffiahccjaa", sum := "b0919810b8813e11f44ce0ac756f5fed5ab37a1eb54226f97d82331b4260c6b2", func := "loop.example/g00851/laws.FnLeaseOne", spec := "fnLeaseOne", apart := false, narrowed := true }
def FnLeaseOneUptoSaid : Prop := fnLeaseOneUptoRow.holds Try.pinned (OpenSpec.upto fnLeaseOneSpec)

/-- 'laws.FnLeaseBack', WHERE WHAT IT READS IS OF BULK AT MOST 1048576: true; the input reads as it did. -/
def fnLeaseBackUptoRow : OpenClaim := { program := "ytgpllffiahccjaa", sum := "b0919810b8813e11f44ce0ac756f5fed5ab37a1eb54226f97d82331b4260c6b2", func := "loop.example/g00851/laws.FnLeaseBack", spec := "fnLeaseBack", apart := false, narrowed := true }
def FnLeaseBackUptoSaid : Prop := fnLeaseBackUptoRow.holds Try.pinned (OpenSpec.upto fnLeaseBackSpec)

/-- 'laws.FnPairsBack', WHERE WHAT IT READS IS OF BULK AT MOST 1048576: true; the input reads as it did. -/
def fnPairsBackUptoRow : OpenClaim := { program := "ytgpllffiahccjaa", sum := "b0919810b8813e11f44ce0ac756f5fed5ab37a1eb54226f97d82331b4260c6b2", func := "loop.example/g00851/laws.FnPairsBack", spec := "fnPairsBack", unfollowed := true, recurses := true, apart := false, narrowed := true }
def FnPairsBackUptoSaid : Prop := fnPairsBackUptoRow.holds Try.pinned (OpenSpec.upto fnPairsBackSpec)

/-- 'laws.FnJobsBack', WHERE WHAT IT READS IS OF BULK AT MOST 1048576: true; the input reads as it did. -/
def fnJobsBackUptoRow : OpenClaim := { program := "ytgpllffiahccjaa", sum := "b0919810b8813e11f44ce0ac756f5fed5ab37a1eb54226f97d82331b4260c6b2", func := "loop.example/g00851/laws.FnJobsBack", spec := "fnJobsBack", apart := false, narrowed := true }
def FnJobsBackUptoSaid : Prop := fnJobsBackUptoRow.holds Try.pinned (OpenSpec.upto fnJobsBackSpec)

/-- 'laws.FnPut', WHERE WHAT IT READS IS OF BULK AT MOST 1048576: true; the input reads as it did. -/
def fnPutUptoRow : OpenClaim := { program := "ytgpllffiahccjaa", sum := "b0919810b8813e11f44ce0ac756f5fed5ab37a1eb54226f97d82331b4260c6b2", func := "loop.example/g00851/laws.FnPut", spec := "fnPut", inPlace := ["slices.overlaps[loop.example/g00851/impl.Pair]"], unfollowed := true, recurses := true, apart := false, narrowed := true }
def FnPutUptoSaid : Prop := fnPutUptoRow.holds Try.pinned (OpenSpec.upto fnPutSpec)

/-- 'laws.FnJobOnce', WHERE WHAT IT READS IS OF BULK AT MOST 1048576: true; the input reads as it did. -/
def fnJobOnceUptoRow : OpenClaim := { program := "ytgpllffiahccjaa", sum := "b0919810b8813e11f44ce0ac756f5fed5ab37a1eb54226f97d82331b4260c6b2", func := "loop.example/g00851/laws.FnJobOnce", spec := "fnJobOnce", inPlace := ["slices.overlaps[loop.example/g00851/impl.Job]"], unfollowed := true, recurses := true, apart := false, narrowed := true }
def FnJobOnceUptoSaid : Prop := fnJobOnceUptoRow.holds Try.pinned (OpenSpec.upto fnJobOnceSpec)

/-- 'laws.FnExactOpenJobs', WHERE WHAT IT READS IS OF BULK AT MOST 1048576: true; the input reads as it did. -/
def fnExactOpenJobsUptoRow : OpenClaim := { program := "ytgpllffiahccjaa", sum := "b0919810b8813e11f44ce0ac756f5fed5ab37a1eb54226f97d82331b4260c6b2", func := "loop.example/g00851/laws.FnExactOpenJobs", spec := "fnExactOpenJobs", unfollowed := true, recurses := true, apart := false, narrowed := true }
def FnExactOpenJobsUptoSaid : Prop := fnExactOpenJobsUptoRow.holds Try.pinned (OpenSpec.upto fnExactOpenJobsSpec)

/-- 'laws.FnExactFiredJobs', WHERE WHAT IT READS IS OF BULK AT MOST 1048576: true; the input reads as it did. -/
def fnExactFiredJobsUptoRow : OpenClaim := { program := "ytgpllffiahccjaa", sum := "b0919810b8813e11f44ce0ac756f5fed5ab37a1eb54226f97d82331b4260c6b2", func := "loop.example/g00851/laws.FnExactFiredJobs", spec := "fnExactFiredJobs", unfollowed := true, recurses := true, apart := false, narrowed := true }
def FnExactFiredJobsUptoSaid : Prop := fnExactFiredJobsUptoRow.holds Try.pinned (OpenSpec.upto fnExactFiredJobsSpec)

/-- 'laws.FnExactDueJobs', WHERE WHAT IT READS IS OF BULK AT MOST 1048576: true; the input reads as it did. -/
def fnExactDueJobsUptoRow : OpenClaim := { program := "ytgpllffiahccjaa", sum := "b0919810b8813e11f44ce0ac756f5fed5ab37a1eb54226f97d82331b4260c6b2", func := "loop.example/g00851/laws.FnExactDueJobs", spec := "fnExactDueJobs", unfollowed := true, recurses := true, apart := false, narrowed := true }
def FnExactDueJobsUptoSaid : Prop := fnExactDueJobsUptoRow.holds Try.pinned (OpenSpec.upto fnExactDueJobsSpec)

/-- 'laws.FnJobsParted', WHERE WHAT IT READS IS OF BULK AT MOST 1048576: true; the input reads as it did. -/
def fnJobsPartedUptoRow : OpenClaim := { program := "ytgpllffiahccjaa", sum := "b0919810b8813e11f44ce0ac756f5fed5ab37a1eb54226f97d82331b4260c6b2", func := "loop.example/g00851/laws.FnJobsParted", spec := "fnJobsParted", unfollowed := true, recurses := true, apart := false, narrowed := true }
def FnJobsPartedUptoSaid : Prop := fnJobsPartedUptoRow.holds Try.pinned (OpenSpec.upto fnJobsPartedSpec)

end Rows
end Go.Proofs.Ytgpllffiahccjaa

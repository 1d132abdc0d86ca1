/- What JobFired and JobAdded answer on a list whose job was fired: their bool alone. -/
import Derived.Test.YtgpllffiahccjaaOnceL
import Derived.Test.YtgpllffiahccjaaJ9
import Derived.Test.YtgpllffiahccjaaJ11
namespace Go.Proofs.Ytgpllffiahccjaa
set_option linter.unusedSimpArgs false
set_option linter.unusedVariables false
attribute [local go_sem] n_lt2 n_lt3 n_lt4 n_le2 n_le3
open Go.RowKit
theorem again_any (A : Option Addr) (n cap : Nat) (l : List Jb) (id : Int) (h : ∀ y, (firedR l id y).2 = false) (w : World) (hS : Sl w 5 A l.length (JB l)) (hn : l.length ≤ maxLen) (hA : A = none → l.length = 0 ∧ cap = 0) (y : Int) :
    Calls Try.prog 47 #[.slice A l.length cap, .int .i64 id, .int .i64 y] w fun e w' => ∃ A' c' n', e = .returned (.tuple #[.slice A' n' c', .bool false]) ∧ Below w.heap.size w w' := by
  refine (firedRI_any A l.length cap l id y w hS rfl hn hA).mono ?_
  rintro e w' ⟨A', c', rfl, _, b⟩
  rw [h y]
  exact ⟨_, _, _, rfl, b⟩
theorem other_any (A : Option Addr) (n cap : Nat) (l : List Jb) (id : Int) (h : ∀ b c d f, (addR l ⟨id, b, c, d, f⟩).2 = false) (w : World) (hS : Sl w 5 A l.length (JB l)) (hn : l.length ≤ maxLen) (hA : A = none → l.length = 0 ∧ cap = 0) (b c d f : Int) :
    Calls Try.prog 49 #[.slice A l.length cap, .agg #[.int .i64 id, .int .i64 b, .int .i64 c, .int .i64 d, .int .i64 f]] w fun e w' => ∃ A' c' n', e = .returned (.tuple #[.slice A' n' c', .bool false]) ∧ Below w.heap.size w w' := by
  refine (addedRI_any A l.length cap l id b c d f w hS rfl hn hA).mono ?_
  rintro e w' ⟨A', c', rfl, _, b⟩
  rw [h]
  exact ⟨_, _, _, rfl, b⟩
end Go.Proofs.Ytgpllffiahccjaa

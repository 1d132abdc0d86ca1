/- JobOk: the program's, the reference's, the law's own conversion, and the law FnExactJobOk's walk. -/
import Derived.Test.YtgpllffiahccjaaA1
namespace Go.Proofs.Ytgpllffiahccjaa
set_option linter.unusedSimpArgs false
set_option linter.unusedVariables false
attribute [local go_sem] n_lt2 n_lt3 n_lt4 n_le2 n_le3
open Go.RowKit

def jobB (a b c d e : Int) : Bool := inB a 1 20 && (inB b 0 1000000 && (inB c 0 9 && (inB d 0 999 && inB e 0 2000)))
set_option maxHeartbeats 400000 in
theorem jobOk_any (a b c d e : Int) (w : World) :
    Calls Try.prog 113 #[.agg #[.int .i64 a, .int .i64 b, .int .i64 c, .int .i64 d, .int .i64 e]] w fun e' w' => e' = .returned (.bool (jobB a b c d e)) ∧ Below w.heap.size w w' := by
  go_enter Try.func113, Try.ntmps113
  go_wp2_with (first | (go_at_call 143; refine (idOk_any _ _).mono ?_; rintro e w' ⟨rfl, rfl⟩) | (go_at_call 69; refine (timeOk_any _ _).mono ?_; rintro e w' ⟨rfl, rfl⟩) | (go_at_call 97; refine (keyOk_any _ _).mono ?_; rintro e w' ⟨rfl, rfl⟩) | (go_at_call 98; refine (valueOk_any _ _).mono ?_; rintro e w' ⟨rfl, rfl⟩) | (go_at_call 70; refine (between_any _ _ _ _).mono ?_; rintro e w' ⟨rfl, rfl⟩))
  all_goals (go_ret; unfold jobB; exact ⟨by simp [*], (Below.refl _ _).alloc (Nat.le_refl _) _⟩)
set_option maxHeartbeats 400000 in
theorem specJobOk_any (a b c d e : Int) (w : World) :
    Calls Try.prog 91 #[.agg #[.int .i64 a, .int .i64 b, .int .i64 c, .int .i64 d, .int .i64 e]] w fun e' w' => e' = .returned (.bool (jobB a b c d e)) ∧ Below w.heap.size w w' := by
  go_enter Try.func91, Try.ntmps91
  go_wp2_with ((go_at_call 74; refine (l1In_any _ _ _ _).mono ?_; rintro e w' ⟨rfl, rfl⟩))
  all_goals (go_ret; unfold jobB; exact ⟨by simp [*], (Below.refl _ _).alloc (Nat.le_refl _) _⟩)
end Go.Proofs.Ytgpllffiahccjaa

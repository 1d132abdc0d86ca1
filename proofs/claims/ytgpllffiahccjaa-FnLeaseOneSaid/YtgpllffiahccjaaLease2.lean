/- Contracts of the functions on leases (the program's and the reference's), second part. -/
import Derived.Test.YtgpllffiahccjaaLease
namespace Go.Proofs.Ytgpllffiahccjaa
set_option linter.unusedSimpArgs false
set_option linter.unusedVariables false
attribute [local go_sem] n_lt2 n_lt3 n_lt4 n_le2 n_le3
open Go.RowKit

set_option maxHeartbeats 400000 in
theorem freeAt_any (h e u t : Int) (w : World) :
    Calls Try.prog 77 #[.agg #[.int .i64 h, .int .i64 e, .int .i64 u], .int .i64 t] w fun e' w' => e' = .returned (.bool (freeB h u t)) ∧ Below w.heap.size w w' := by
  go_enter Try.func77, Try.ntmps77
  go_wp2
  all_goals (go_ret; exact ⟨ret_bool (by unfold freeB; (first | rfl | (simp [*]; done) | (subst_vars; simp [*]; done) | (simp_all; done))), by (repeat' (first | (with_reducible exact Below.refl _ _) | (with_reducible assumption) | (with_reducible refine Below.alloc ?_ ?_ _) | (with_reducible refine Below.drew ?_) | (with_reducible refine Below.setCell ?_ ?_ _) | (with_reducible refine bstep (by assumption) ?_ ?_) | (with_reducible exact Nat.le_refl _) | omega | (simp [*]; done) | (simp [*]; omega)))⟩)
set_option maxHeartbeats 400000 in
theorem FreeAt_any (h e u t : Int) (w : World) :
    Calls Try.prog 20 #[.agg #[.int .i64 h, .int .i64 e, .int .i64 u], .int .i64 t] w fun e' w' => e' = .returned (.bool (freeAtB h e u t)) ∧ Below w.heap.size w w' := by
  go_enter Try.func20, Try.ntmps20
  go_wp2_with (first | (go_at_call 21; refine (leaseOk_any _ _ _ _).mono ?_; rintro e w1 ⟨rfl, hb'⟩; (first | (have hb2 := bstep hb' hb hb.size; clear hb' hcb hfb hz1 hz2 hz3 hz4 hb; have hb := hb2; clear hb2) | (have hb := hb'; clear hb')); obtain ⟨hcb, hfb, hz1, hz2, hz3, hz4⟩ := bcell hb; (try simp only [World.size_alloc, World.size_setCell, World.size_drew, Nat.lt_add_one_iff, Nat.add_assoc, Nat.reduceAdd] at hz1 hz2 hz3 hz4)) | (go_at_call 69; refine (timeOk_any _ _).mono ?_; rintro e w' ⟨rfl, rfl⟩) | (go_at_call 77; refine (freeAt_any _ _ _ _ _).mono ?_; rintro e w1 ⟨rfl, hb'⟩; (first | (have hb2 := bstep hb' hb hb.size; clear hb' hcb hfb hz1 hz2 hz3 hz4 hb; have hb := hb2; clear hb2) | (have hb := hb'; clear hb')); obtain ⟨hcb, hfb, hz1, hz2, hz3, hz4⟩ := bcell hb; (try simp only [World.size_alloc, World.size_setCell, World.size_drew, Nat.lt_add_one_iff, Nat.add_assoc, Nat.reduceAdd] at hz1 hz2 hz3 hz4)))
  all_goals (go_ret; exact ⟨ret_bool (by unfold freeAtB; (first | rfl | (simp [*]; done) | (subst_vars; simp [*]; done) | (simp_all; done))), by (repeat' (first | (with_reducible exact Below.refl _ _) | (with_reducible assumption) | (with_reducible refine Below.alloc ?_ ?_ _) | (with_reducible refine Below.drew ?_) | (with_reducible refine Below.setCell ?_ ?_ _) | (with_reducible refine bstep (by assumption) ?_ ?_) | (with_reducible exact Nat.le_refl _) | omega | (simp [*]; done) | (simp [*]; omega)))⟩)
set_option maxHeartbeats 400000 in
theorem specFreeAt_any (h e u t : Int) (w : World) :
    Calls Try.prog 76 #[.agg #[.int .i64 h, .int .i64 e, .int .i64 u], .int .i64 t] w fun e' w' => e' = .returned (.bool (freeAtB h e u t)) ∧ Below w.heap.size w w' := by
  go_enter Try.func76, Try.ntmps76
  go_wp2_with (first | (go_at_call 25; refine (specLeaseOk_any _ _ _ _).mono ?_; rintro e w1 ⟨rfl, hb'⟩; (first | (have hb2 := bstep hb' hb hb.size; clear hb' hcb hfb hz1 hz2 hz3 hz4 hb; have hb := hb2; clear hb2) | (have hb := hb'; clear hb')); obtain ⟨hcb, hfb, hz1, hz2, hz3, hz4⟩ := bcell hb; (try simp only [World.size_alloc, World.size_setCell, World.size_drew, Nat.lt_add_one_iff, Nat.add_assoc, Nat.reduceAdd] at hz1 hz2 hz3 hz4)) | (go_at_call 73; refine (l16Time_any _ _).mono ?_; rintro e w' ⟨rfl, rfl⟩))
  all_goals (go_ret; exact ⟨ret_bool (by unfold freeAtB freeB; (first | rfl | (simp [*]; done) | (subst_vars; simp [*]; done) | (simp_all; done))), by (repeat' (first | (with_reducible exact Below.refl _ _) | (with_reducible assumption) | (with_reducible refine Below.alloc ?_ ?_ _) | (with_reducible refine Below.drew ?_) | (with_reducible refine Below.setCell ?_ ?_ _) | (with_reducible refine bstep (by assumption) ?_ ?_) | (with_reducible exact Nat.le_refl _) | omega | (simp [*]; done) | (simp [*]; omega)))⟩)
set_option maxHeartbeats 800000 in
theorem HoldsAt_any (h e u who ep t : Int) (w : World) :
    Calls Try.prog 18 #[.agg #[.int .i64 h, .int .i64 e, .int .i64 u], .int .i64 who, .int .i64 ep, .int .i64 t] w fun e' w' => e' = .returned (.bool (holdsB h e u who ep t)) ∧ Below w.heap.size w w' := by
  go_enter Try.func18, Try.ntmps18
  go_wp2_with (first | (go_at_call 21; refine (leaseOk_any _ _ _ _).mono ?_; rintro e w1 ⟨rfl, hb'⟩; (first | (have hb2 := bstep hb' hb hb.size; clear hb' hcb hfb hz1 hz2 hz3 hz4 hb; have hb := hb2; clear hb2) | (have hb := hb'; clear hb')); obtain ⟨hcb, hfb, hz1, hz2, hz3, hz4⟩ := bcell hb; (try simp only [World.size_alloc, World.size_setCell, World.size_drew, Nat.lt_add_one_iff, Nat.add_assoc, Nat.reduceAdd] at hz1 hz2 hz3 hz4)) | (go_at_call 69; refine (timeOk_any _ _).mono ?_; rintro e w' ⟨rfl, rfl⟩))
  all_goals (go_ret; exact ⟨ret_bool (by unfold holdsB; (first | rfl | (simp [*]; done) | (subst_vars; simp [*]; done) | (simp_all; done))), by (repeat' (first | (with_reducible exact Below.refl _ _) | (with_reducible assumption) | (with_reducible refine Below.alloc ?_ ?_ _) | (with_reducible refine Below.drew ?_) | (with_reducible refine Below.setCell ?_ ?_ _) | (with_reducible refine bstep (by assumption) ?_ ?_) | (with_reducible exact Nat.le_refl _) | omega | (simp [*]; done) | (simp [*]; omega)))⟩)
end Go.Proofs.Ytgpllffiahccjaa

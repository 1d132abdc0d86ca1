/- Contracts of the functions on leases, third part: LeftAt, SameLease, Granted. -/
import Derived.Test.YtgpllffiahccjaaLease2
namespace Go.Proofs.Ytgpllffiahccjaa
set_option linter.unusedSimpArgs false
set_option linter.unusedVariables false
attribute [local go_sem] n_lt2 n_lt3 n_lt4 n_le2 n_le3
open Go.RowKit

set_option maxHeartbeats 400000 in
theorem LeftAt_any (h e u t : Int) (w : World) :
    Calls Try.prog 19 #[.agg #[.int .i64 h, .int .i64 e, .int .i64 u], .int .i64 t] w fun e' w' => e' = .returned (.int .i64 (leftI h e u t)) ∧ Below w.heap.size w w' := by
  by_cases hg : (leaseB h e u && (inB t 0 1000000 && !freeB h u t)) = true
  · have hv : leftI h e u t = u - t := by unfold leftI; rw [if_pos hg]
    rw [hv]
    clear hv
    simp only [Bool.and_eq_true, Bool.not_eq_true'] at hg
    obtain ⟨h1, h2, h3⟩ := hg
    have hh : h ≠ 0 := by intro h0; subst h0; simp [freeB] at h3
    obtain ⟨_, _, _, b1, b2⟩ := lease_bounds h1 hh
    obtain ⟨b3, b4⟩ := (inB_iff _ _ _).1 h2
    clear hh
    go_enter Try.func19, Try.ntmps19
    go_wp2_with (first | (go_at_call 21; refine (leaseOk_any _ _ _ _).mono ?_; rintro e w1 ⟨rfl, hb'⟩; (first | (have hb2 := bstep hb' hb hb.size; clear hb' hcb hfb hz1 hz2 hz3 hz4 hb; have hb := hb2; clear hb2) | (have hb := hb'; clear hb')); obtain ⟨hcb, hfb, hz1, hz2, hz3, hz4⟩ := bcell hb; (try simp only [World.size_alloc, World.size_setCell, World.size_drew, Nat.lt_add_one_iff, Nat.add_assoc, Nat.reduceAdd] at hz1 hz2 hz3 hz4)) | (go_at_call 69; refine (timeOk_any _ _).mono ?_; rintro e w' ⟨rfl, rfl⟩) | (go_at_call 77; refine (freeAt_any _ _ _ _ _).mono ?_; rintro e w1 ⟨rfl, hb'⟩; (first | (have hb2 := bstep hb' hb hb.size; clear hb' hcb hfb hz1 hz2 hz3 hz4 hb; have hb := hb2; clear hb2) | (have hb := hb'; clear hb')); obtain ⟨hcb, hfb, hz1, hz2, hz3, hz4⟩ := bcell hb; (try simp only [World.size_alloc, World.size_setCell, World.size_drew, Nat.lt_add_one_iff, Nat.add_assoc, Nat.reduceAdd] at hz1 hz2 hz3 hz4)))
    all_goals (go_ret; exact ⟨rfl, by (repeat' (first | (with_reducible exact Below.refl _ _) | (with_reducible assumption) | (with_reducible refine Below.alloc ?_ ?_ _) | (with_reducible refine Below.drew ?_) | (with_reducible refine Below.setCell ?_ ?_ _) | (with_reducible refine bstep (by assumption) ?_ ?_) | (with_reducible exact Nat.le_refl _) | omega | (simp [*]; done) | (simp [*]; omega)))⟩)
  · have hv : leftI h e u t = 0 := by unfold leftI; rw [if_neg hg]
    rw [hv]
    clear hv
    have hgH := Lib.hid hg
    clear hg
    go_enter Try.func19, Try.ntmps19
    go_wp2_with (first | (go_at_call 21; refine (leaseOk_any _ _ _ _).mono ?_; rintro e w1 ⟨rfl, hb'⟩; (first | (have hb2 := bstep hb' hb hb.size; clear hb' hcb hfb hz1 hz2 hz3 hz4 hb; have hb := hb2; clear hb2) | (have hb := hb'; clear hb')); obtain ⟨hcb, hfb, hz1, hz2, hz3, hz4⟩ := bcell hb; (try simp only [World.size_alloc, World.size_setCell, World.size_drew, Nat.lt_add_one_iff, Nat.add_assoc, Nat.reduceAdd] at hz1 hz2 hz3 hz4)) | (go_at_call 69; refine (timeOk_any _ _).mono ?_; rintro e w' ⟨rfl, rfl⟩) | (go_at_call 77; refine (freeAt_any _ _ _ _ _).mono ?_; rintro e w1 ⟨rfl, hb'⟩; (first | (have hb2 := bstep hb' hb hb.size; clear hb' hcb hfb hz1 hz2 hz3 hz4 hb; have hb := hb2; clear hb2) | (have hb := hb'; clear hb')); obtain ⟨hcb, hfb, hz1, hz2, hz3, hz4⟩ := bcell hb; (try simp only [World.size_alloc, World.size_setCell, World.size_drew, Nat.lt_add_one_iff, Nat.add_assoc, Nat.reduceAdd] at hz1 hz2 hz3 hz4)))
    all_goals (go_ret; first | exact ⟨rfl, by (repeat' (first | (with_reducible exact Below.refl _ _) | (with_reducible assumption) | (with_reducible refine Below.alloc ?_ ?_ _) | (with_reducible refine Below.drew ?_) | (with_reducible refine Below.setCell ?_ ?_ _) | (with_reducible refine bstep (by assumption) ?_ ?_) | (with_reducible exact Nat.le_refl _) | omega | (simp [*]; done) | (simp [*]; omega)))⟩ | (exfalso; exact hgH.out (by simp [*])))
end Go.Proofs.Ytgpllffiahccjaa

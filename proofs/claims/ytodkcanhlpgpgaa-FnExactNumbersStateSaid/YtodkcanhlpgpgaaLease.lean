/- Contracts of the functions on leases (the program's and the reference's), each as a plain function of the lease's three numbers. -/
import Derived.Test.YtodkcanhlpgpgaaA1
namespace Go.Proofs.Ytodkcanhlpgpgaa
set_option linter.unusedSimpArgs false
set_option linter.unusedVariables false
attribute [local go_sem] n_lt2 n_lt3 n_lt4 n_le2 n_le3
open Go.RowKit

def whoB (x : Int) : Bool := x == 2 || x == 3
def leaseB (h e u : Int) : Bool := (decide (h = 0) && (decide (e = 0) && decide (u = 0))) || (whoB h && (inB e 1 1000 && inB u 1 1001000))
def freeB (h u t : Int) : Bool := decide (h = 0) || decide (u ≤ t)
def freeAtB (h e u t : Int) : Bool := leaseB h e u && (inB t 0 1000000 && freeB h u t)
def holdsB (h e u who ep t : Int) : Bool := leaseB h e u && (inB t 0 1000000 && (!decide (h = 0) && (decide (h = who) && (decide (e = ep) && decide (t < u)))))
def leftI (h e u t : Int) : Int := if leaseB h e u && (inB t 0 1000000 && !freeB h u t) then u - t else 0
def sameLeaseB (h e u h' e' u' : Int) : Bool := leaseB h e u && (decide (h = h') && (decide (e = e') && decide (u = u')))
def grantL (h e u who t long : Int) : (Int × Int × Int) × Bool :=
  if leaseB h e u = true then
    if (whoB who && (inB t 0 1000000 && inB long 1 1000)) = true then
      if h = who then ((h, e, max u (t + long)), true)
      else if (freeB h u t && decide (e < 1000)) = true then ((who, e + 1, t + long), true)
      else ((h, e, u), false)
    else ((h, e, u), false)
  else ((0, 0, 0), false)

theorem lease_bounds {h e u : Int} (hl : leaseB h e u = true) (hh : h ≠ 0) : whoB h = true ∧ 1 ≤ e ∧ e ≤ 1000 ∧ 1 ≤ u ∧ u ≤ 1001000 := by
  unfold leaseB at hl
  simp only [Bool.or_eq_true, Bool.and_eq_true, decide_eq_true_eq, inB_iff] at hl
  rcases hl with hl | ⟨h1, h2, h3⟩
  · exact absurd hl.1 hh
  · exact ⟨h1, h2.1, h2.2, h3.1, h3.2⟩

theorem schedOk_any (x : Int) (w : World) : Calls Try.prog 96 #[.int .i64 x] w fun e w' => e = .returned (.bool (whoB x)) ∧ w = w' := by
  go_enter Try.func96, Try.ntmps96
  go_wp2
  all_goals (go_ret; exact ⟨ret_bool (by first | rfl | (unfold whoB; simp [*])), rfl⟩)
theorem l16Who_any (x : Int) (w : World) : Calls Try.prog 89 #[.int .i64 x] w fun e w' => e = .returned (.bool (whoB x)) ∧ w = w' := by
  go_enter Try.func89, Try.ntmps89
  go_wp2
  all_goals (go_ret; exact ⟨ret_bool (by first | rfl | (unfold whoB; simp [*])), rfl⟩)
theorem l16Time_any (x : Int) (w : World) : Calls Try.prog 38 #[.int .i64 x] w fun e w' => e = .returned (.bool (inB x 0 1000000)) ∧ w = w' := by
  go_enter Try.func38, Try.ntmps38
  go_wp2_with ((go_at_call 37; refine (l1In_any _ _ _ _).mono ?_; rintro e w' ⟨rfl, rfl⟩))
  go_ret; exact ⟨rfl, rfl⟩

set_option maxHeartbeats 400000 in
theorem leaseOk_any (h e u : Int) (w : World) :
    Calls Try.prog 49 #[.agg #[.int .i64 h, .int .i64 e, .int .i64 u]] w fun e' w' => e' = .returned (.bool (leaseB h e u)) ∧ Below w.heap.size w w' := by
  go_enter Try.func49, Try.ntmps49
  go_wp2_with (first | (go_at_call 96; refine (schedOk_any _ _).mono ?_; rintro e w' ⟨rfl, rfl⟩) | (go_at_call 45; refine (between_any _ _ _ _).mono ?_; rintro e w' ⟨rfl, rfl⟩))
  all_goals (go_ret; exact ⟨ret_bool (by unfold leaseB; (first | rfl | (simp [*]; done) | (subst_vars; simp [*]; done) | (simp_all; done))), by (repeat' (first | (with_reducible exact Below.refl _ _) | (with_reducible assumption) | (with_reducible refine Below.alloc ?_ ?_ _) | (with_reducible refine Below.drew ?_) | (with_reducible refine Below.setCell ?_ ?_ _) | (with_reducible refine bstep (by assumption) ?_ ?_) | (with_reducible exact Nat.le_refl _) | omega | (simp [*]; done) | (simp [*]; omega)))⟩)
set_option maxHeartbeats 400000 in
theorem specLeaseOk_any (h e u : Int) (w : World) :
    Calls Try.prog 41 #[.agg #[.int .i64 h, .int .i64 e, .int .i64 u]] w fun e' w' => e' = .returned (.bool (leaseB h e u)) ∧ Below w.heap.size w w' := by
  go_enter Try.func41, Try.ntmps41
  go_wp2_with (first | (go_at_call 89; refine (l16Who_any _ _).mono ?_; rintro e w' ⟨rfl, rfl⟩) | (go_at_call 37; refine (l1In_any _ _ _ _).mono ?_; rintro e w' ⟨rfl, rfl⟩))
  all_goals (go_ret; exact ⟨ret_bool (by unfold leaseB; (first | rfl | (simp [*]; done) | (subst_vars; simp [*]; done) | (simp_all; done))), by (repeat' (first | (with_reducible exact Below.refl _ _) | (with_reducible assumption) | (with_reducible refine Below.alloc ?_ ?_ _) | (with_reducible refine Below.drew ?_) | (with_reducible refine Below.setCell ?_ ?_ _) | (with_reducible refine bstep (by assumption) ?_ ?_) | (with_reducible exact Nat.le_refl _) | omega | (simp [*]; done) | (simp [*]; omega)))⟩)
end Go.Proofs.Ytodkcanhlpgpgaa

/- The walk of the law FnExactJobsOk. -/
import Derived.Test.YtpejbpmccmbedaaSJob
import Derived.Test.YtpejbpmccmbedaaJ2
namespace Go.Proofs.Ytpejbpmccmbedaa
set_option linter.unusedSimpArgs false
set_option linter.unusedVariables false
attribute [local go_sem] n_lt2 n_lt3 n_lt4 n_le2 n_le3
open Go.RowKit
attribute [local go_sem] Ext.cell Ext.frozen

set_option maxHeartbeats 2000000 in
theorem law_ExactJobsOk (A0 : Option Addr) (n0 cap0 : Nat) (zs0 : List Int) (w : World) (hS0 : Sl w 5 A0 n0 zs0) (hn0 : n0 ≤ cap0) (hc0 : cap0 ≤ maxLen) :
    Calls Try.prog 4 #[.slice A0 n0 cap0] w fun e' w' => e' = .returned (.bool true) ∧ Below w.heap.size w w' := by
  have hm0 : n0 ≤ maxLen := Nat.le_trans hn0 hc0
  obtain ⟨l0, hl0, rfl⟩ := JB_of n0 zs0 hS0.len
  have a_0 := hS0
  clear hS0
  by_cases hz0 : n0 ≤ 1048576
  rotate_left
  · have hh0 : 1048576 < n0 := by omega
    clear hz0
    go_enter Try.func4, Try.ntmps4
    go_wp2_with fail
    refine (szJobS_no _ _ _ _ _ (by omega) (by omega) (by omega) (Nat.le_trans hn0 hc0)).mono ?_
    rintro e w' ⟨rfl, rfl⟩
    go_wp2
    go_ret
    exact ⟨rfl, Below.refl _ _⟩
  go_enter Try.func4, Try.ntmps4
  go_wp2_with fail
  have B0 : Below w.heap.size w w := Below.refl _ _
  refine (szJobS_yes _ _ _ _ _ (by omega) (by omega)).mono ?_
  rintro e w' ⟨rfl, rfl⟩
  go_wp2_with fail
  refine (toJobS_any A0 n0 cap0 (JB l0) _ a_0 hz0).mono ?_
  rintro e w1 ⟨A_t, c_t, rfl, R_t, b1⟩
  have L_a_t := fun hn => a_0.lt hn
  have G_t : w.heap.size ≤ w.heap.size := Nat.le_refl _
  have a_1 := a_0.below b1
  clear a_0
  have F_1 := b1
  have t_1 := R_t
  clear R_t
  go_wp2_with fail
  refine (specJobsOk_any A_t n0 c_t l0 _ t_1.sl hl0 hm0).mono ?_
  rintro e w2 ⟨rfl, b2⟩
  have a_2 := a_1.below b2
  clear a_1
  have t_2 := t_1.below b2
  clear t_1
  have F_2 := bthen F_1 b2
  go_wp2_with fail
  refine (toJobS_any A0 n0 cap0 (JB l0) _ a_2 hz0).mono ?_
  rintro e w3 ⟨A_x, c_x, rfl, R_x, b3⟩
  have L_a_x := fun hn => a_2.lt hn
  have L_t_x := t_2.lt
  have G_x : w.heap.size ≤ w2.heap.size := F_2.size
  have a_3 := a_2.below b3
  clear a_2
  have t_3 := t_2.below b3
  clear t_2
  have F_3 := bthen F_2 b3
  have x_3 := R_x
  clear R_x
  go_wp2_with fail
  refine (jobsOk_any A_x n0 c_x l0 _ x_3.sl hl0 hm0).mono ?_
  rintro e w4 ⟨rfl, b4⟩
  have a_4 := a_3.below b4
  clear a_3
  have t_4 := t_3.below b4
  clear t_3
  have x_4 := x_3.below b4
  clear x_3
  have F_4 := bthen F_3 b4
  go_wp2_with fail
  refine (toJobS_any A0 n0 cap0 (JB l0) _ a_4 hz0).mono ?_
  rintro e w5 ⟨A_u, c_u, rfl, R_u, b5⟩
  have L_a_u := fun hn => a_4.lt hn
  have L_t_u := t_4.lt
  have L_x_u := x_4.lt
  have G_u : w.heap.size ≤ w4.heap.size := F_4.size
  have a_5 := a_4.below b5
  clear a_4
  have t_5 := t_4.below b5
  clear t_4
  have x_5 := x_4.below b5
  clear x_4
  have F_5 := bthen F_4 b5
  have u_5 := R_u
  clear R_u
  have he := eqL_self (JB l0)
  go_wp2_with fail
  refine (eqJobS_any A_x A_u n0 n0 c_x c_u (JB l0) (JB l0) _ x_5.sl u_5.sl hm0 hm0).mono ?_
  rintro e w6 ⟨rfl, b6⟩
  have a_6 := a_5.below b6
  clear a_5
  have t_6 := t_5.below b6
  clear t_5
  have x_6 := x_5.below b6
  clear x_5
  have u_6 := u_5.below b6
  clear u_5
  have F_6 := bthen F_5 b6
  go_wp2
  go_ret
  exact ⟨rfl, bstep F_6 B0 B0.size⟩
end Go.Proofs.Ytpejbpmccmbedaa

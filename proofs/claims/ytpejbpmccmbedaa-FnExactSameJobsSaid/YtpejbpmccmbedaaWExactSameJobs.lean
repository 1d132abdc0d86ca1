/- The walk of the law FnExactSameJobs. -/
import Derived.Test.YtpejbpmccmbedaaJ3
namespace Go.Proofs.Ytpejbpmccmbedaa
set_option linter.unusedSimpArgs false
set_option linter.unusedVariables false
attribute [local go_sem] n_lt2 n_lt3 n_lt4 n_le2 n_le3
open Go.RowKit
attribute [local go_sem] Ext.cell Ext.frozen

set_option maxHeartbeats 2000000 in
theorem law_ExactSameJobs (A0 : Option Addr) (n0 cap0 : Nat) (zs0 : List Int) (A1 : Option Addr) (n1 cap1 : Nat) (zs1 : List Int) (w : World) (hS0 : Sl w 5 A0 n0 zs0) (hn0 : n0 ≤ cap0) (hc0 : cap0 ≤ maxLen) (hS1 : Sl w 5 A1 n1 zs1) (hn1 : n1 ≤ cap1) (hc1 : cap1 ≤ maxLen) :
    Calls Try.prog 6 #[.slice A0 n0 cap0, .slice A1 n1 cap1] w fun e' w' => e' = .returned (.bool true) ∧ Below w.heap.size w w' := by
  have hm0 : n0 ≤ maxLen := Nat.le_trans hn0 hc0
  obtain ⟨l0, hl0, rfl⟩ := JB_of n0 zs0 hS0.len
  have a_0 := hS0
  clear hS0
  have hm1 : n1 ≤ maxLen := Nat.le_trans hn1 hc1
  obtain ⟨l1, hl1, rfl⟩ := JB_of n1 zs1 hS1.len
  have b_0 := hS1
  clear hS1
  by_cases hz0 : n0 ≤ 1048576
  rotate_left
  · have hh0 : 1048576 < n0 := by omega
    clear hz0
    go_enter Try.func6, Try.ntmps6
    go_wp2_with fail
    refine (szJobS_no _ _ _ _ _ (by omega) (by omega) (by omega) (Nat.le_trans hn0 hc0)).mono ?_
    rintro e w' ⟨rfl, rfl⟩
    go_wp2
    go_ret
    exact ⟨rfl, Below.refl _ _⟩
  by_cases hz1 : n0 + n1 ≤ 1048576
  rotate_left
  · have hh1 : 1048576 < n0 + n1 := by omega
    clear hz1
    go_enter Try.func6, Try.ntmps6
    go_wp2_with fail
    refine (szJobS_yes _ _ _ _ _ (by omega) (by omega)).mono ?_
    rintro e w' ⟨rfl, rfl⟩
    go_wp2_with fail
    refine (szJobS_no _ _ _ _ _ (by omega) (by omega) (by omega) (Nat.le_trans hn1 hc1)).mono ?_
    rintro e w' ⟨rfl, rfl⟩
    go_wp2
    go_ret
    exact ⟨rfl, Below.refl _ _⟩
  go_enter Try.func6, Try.ntmps6
  go_wp2_with fail
  have B0 : Below w.heap.size w w := Below.refl _ _
  refine (szJobS_yes _ _ _ _ _ (by omega) (by omega)).mono ?_
  rintro e w' ⟨rfl, rfl⟩
  go_wp2_with fail
  refine (szJobS_yes _ _ _ _ _ (by omega) (by omega)).mono ?_
  rintro e w' ⟨rfl, rfl⟩
  go_wp2_with fail
  refine (toJobS_any A0 n0 cap0 (JB l0) _ a_0 (by omega)).mono ?_
  rintro e w1 ⟨A_t, c_t, rfl, R_t, b1⟩
  have L_a_t := fun hn => a_0.lt hn
  have L_b_t := fun hn => b_0.lt hn
  have G_t : w.heap.size ≤ w.heap.size := Nat.le_refl _
  have a_1 := a_0.below b1
  clear a_0
  have b_1 := b_0.below b1
  clear b_0
  have F_1 := b1
  have t_1 := R_t
  clear R_t
  go_wp2_with fail
  refine (toJobS_any A1 n1 cap1 (JB l1) _ b_1 (by omega)).mono ?_
  rintro e w2 ⟨A_u, c_u, rfl, R_u, b2⟩
  have L_a_u := fun hn => a_1.lt hn
  have L_b_u := fun hn => b_1.lt hn
  have L_t_u := t_1.lt
  have G_u : w.heap.size ≤ w1.heap.size := F_1.size
  have a_2 := a_1.below b2
  clear a_1
  have b_2 := b_1.below b2
  clear b_1
  have t_2 := t_1.below b2
  clear t_1
  have F_2 := bthen F_1 b2
  have u_2 := R_u
  clear R_u
  generalize hq : sameJobsB l0 l1 = q
  have e1 := specSameJobs_any A_t A_u n0 n1 c_t c_u l0 l1 w2 t_2.sl u_2.sl hl0 hl1 hm0 hm1
  rw [hq] at e1
  go_wp2_with fail
  refine (e1).mono ?_
  rintro e w3 ⟨rfl, b3⟩
  have a_3 := a_2.below b3
  clear a_2
  have b_3 := b_2.below b3
  clear b_2
  have t_3 := t_2.below b3
  clear t_2
  have u_3 := u_2.below b3
  clear u_2
  have F_3 := bthen F_2 b3
  go_wp2_with fail
  refine (toJobS_any A0 n0 cap0 (JB l0) _ a_3 (by omega)).mono ?_
  rintro e w4 ⟨A_x, c_x, rfl, R_x, b4⟩
  have L_a_x := fun hn => a_3.lt hn
  have L_b_x := fun hn => b_3.lt hn
  have L_t_x := t_3.lt
  have L_u_x := u_3.lt
  have G_x : w.heap.size ≤ w3.heap.size := F_3.size
  have a_4 := a_3.below b4
  clear a_3
  have b_4 := b_3.below b4
  clear b_3
  have t_4 := t_3.below b4
  clear t_3
  have u_4 := u_3.below b4
  clear u_3
  have F_4 := bthen F_3 b4
  have x_4 := R_x
  clear R_x
  go_wp2_with fail
  refine (toJobS_any A1 n1 cap1 (JB l1) _ b_4 (by omega)).mono ?_
  rintro e w5 ⟨A_y, c_y, rfl, R_y, b5⟩
  have L_a_y := fun hn => a_4.lt hn
  have L_b_y := fun hn => b_4.lt hn
  have L_t_y := t_4.lt
  have L_u_y := u_4.lt
  have L_x_y := x_4.lt
  have G_y : w.heap.size ≤ w4.heap.size := F_4.size
  have a_5 := a_4.below b5
  clear a_4
  have b_5 := b_4.below b5
  clear b_4
  have t_5 := t_4.below b5
  clear t_4
  have u_5 := u_4.below b5
  clear u_4
  have x_5 := x_4.below b5
  clear x_4
  have F_5 := bthen F_4 b5
  have y_5 := R_y
  clear R_y
  have e2 := sameJobs_any A_x A_y n0 n1 c_x c_y l0 l1 w5 x_5.sl y_5.sl hl0 hl1 hm0 hm1
  rw [hq] at e2
  go_wp2_with fail
  refine (e2).mono ?_
  rintro e w6 ⟨rfl, b6⟩
  have a_6 := a_5.below b6
  clear a_5
  have b_6 := b_5.below b6
  clear b_5
  have t_6 := t_5.below b6
  clear t_5
  have u_6 := u_5.below b6
  clear u_5
  have x_6 := x_5.below b6
  clear x_5
  have y_6 := y_5.below b6
  clear y_5
  have F_6 := bthen F_5 b6
  have he0 := eqL_self (JB l0)
  have he1 := eqL_self (JB l1)
  go_wp2_with fail
  refine (toJobS_any A0 n0 cap0 (JB l0) _ a_6 (by omega)).mono ?_
  rintro e w7 ⟨A_v, c_v, rfl, R_v, b7⟩
  have L_a_v := fun hn => a_6.lt hn
  have L_b_v := fun hn => b_6.lt hn
  have L_t_v := t_6.lt
  have L_u_v := u_6.lt
  have L_x_v := x_6.lt
  have L_y_v := y_6.lt
  have G_v : w.heap.size ≤ w6.heap.size := F_6.size
  have a_7 := a_6.below b7
  clear a_6
  have b_7 := b_6.below b7
  clear b_6
  have t_7 := t_6.below b7
  clear t_6
  have u_7 := u_6.below b7
  clear u_6
  have x_7 := x_6.below b7
  clear x_6
  have y_7 := y_6.below b7
  clear y_6
  have F_7 := bthen F_6 b7
  have v_7 := R_v
  clear R_v
  go_wp2_with fail
  refine (eqJobS_any A_x A_v n0 n0 c_x c_v (JB l0) (JB l0) _ x_7.sl v_7.sl hm0 hm0).mono ?_
  rintro e w8 ⟨rfl, b8⟩
  have a_8 := a_7.below b8
  clear a_7
  have b_8 := b_7.below b8
  clear b_7
  have t_8 := t_7.below b8
  clear t_7
  have u_8 := u_7.below b8
  clear u_7
  have x_8 := x_7.below b8
  clear x_7
  have y_8 := y_7.below b8
  clear y_7
  have v_8 := v_7.below b8
  clear v_7
  have F_8 := bthen F_7 b8
  go_wp2_with fail
  refine (toJobS_any A1 n1 cap1 (JB l1) _ b_8 (by omega)).mono ?_
  rintro e w9 ⟨A_z, c_z, rfl, R_z, b9⟩
  have L_a_z := fun hn => a_8.lt hn
  have L_b_z := fun hn => b_8.lt hn
  have L_t_z := t_8.lt
  have L_u_z := u_8.lt
  have L_x_z := x_8.lt
  have L_y_z := y_8.lt
  have L_v_z := v_8.lt
  have G_z : w.heap.size ≤ w8.heap.size := F_8.size
  have a_9 := a_8.below b9
  clear a_8
  have b_9 := b_8.below b9
  clear b_8
  have t_9 := t_8.below b9
  clear t_8
  have u_9 := u_8.below b9
  clear u_8
  have x_9 := x_8.below b9
  clear x_8
  have y_9 := y_8.below b9
  clear y_8
  have v_9 := v_8.below b9
  clear v_8
  have F_9 := bthen F_8 b9
  have z_9 := R_z
  clear R_z
  go_wp2_with fail
  refine (eqJobS_any A_y A_z n1 n1 c_y c_z (JB l1) (JB l1) _ y_9.sl z_9.sl hm1 hm1).mono ?_
  rintro e w10 ⟨rfl, b10⟩
  have a_10 := a_9.below b10
  clear a_9
  have b_10 := b_9.below b10
  clear b_9
  have t_10 := t_9.below b10
  clear t_9
  have u_10 := u_9.below b10
  clear u_9
  have x_10 := x_9.below b10
  clear x_9
  have y_10 := y_9.below b10
  clear y_9
  have v_10 := v_9.below b10
  clear v_9
  have z_10 := z_9.below b10
  clear z_9
  have F_10 := bthen F_9 b10
  go_wp2
  go_ret
  exact ⟨rfl, bstep F_10 B0 B0.size⟩
end Go.Proofs.Ytpejbpmccmbedaa

/- The walk of the law FnExactDueJobs. -/
import Derived.Test.YtgpllffiahccjaaK9
import Derived.Test.YtgpllffiahccjaaSJob
import Derived.Test.YtgpllffiahccjaaSInt64
namespace Go.Proofs.Ytgpllffiahccjaa
set_option linter.unusedSimpArgs false
set_option linter.unusedVariables false
attribute [local go_sem] n_lt2 n_lt3 n_lt4 n_le2 n_le3
open Go.RowKit
attribute [local go_sem] Ext.cell Ext.frozen

set_option maxHeartbeats 4000000 in
theorem law_ExactDueJobs (A0 : Option Addr) (n0 cap0 : Nat) (zs0 : List Int) (time : Int) (w : World) (hS0 : Sl w 5 A0 n0 zs0) (hn0 : n0 ≤ cap0) (hc0 : cap0 ≤ maxLen) :
    Calls Try.prog 11 #[.slice A0 n0 cap0, .int .i64 time] w fun e' w' => e' = .returned (.bool true) ∧ Below w.heap.size w w' := by
  have hm0 : n0 ≤ maxLen := Nat.le_trans hn0 hc0
  obtain ⟨l0, hl0, rfl⟩ := JB_of n0 zs0 hS0.len
  have a_0 := hS0
  clear hS0
  by_cases hz0 : n0 ≤ 1048576
  rotate_left
  · have hh0 : 1048576 < n0 := by omega
    clear hz0
    go_enter Try.func11, Try.ntmps11
    go_wp2_with fail
    refine (szJobS_no _ _ _ _ _ (by omega) (by omega) (by omega) (Nat.le_trans hn0 hc0)).mono ?_
    rintro e w' ⟨rfl, rfl⟩
    go_wp2
    go_ret
    exact ⟨rfl, Below.refl _ _⟩
  go_enter Try.func11, Try.ntmps11
  go_wp2_with fail
  have B0 : Below w.heap.size w w := Below.refl _ _
  refine (szJobS_yes _ _ _ _ _ (by omega) (by omega)).mono ?_
  rintro e w' ⟨rfl, rfl⟩
  obtain ⟨Z, hq⟩ : ∃ x, dueR l0 time = x := ⟨_, rfl⟩
  obtain ⟨nz, hnz⟩ : ∃ x, (dueR l0 time).length = x := ⟨_, rfl⟩
  have hzl : nz ≤ 8 := by rw [← hnz]; exact dueR_len l0 time
  have HQ := Lib.hid (And.intro hq hnz)
  clear hq hnz
  have hzm : nz ≤ maxLen := by unfold maxLen; omega
  have hz20 : nz ≤ 1048576 := by omega
  have heZ := eqL_self Z
  have he0 := eqL_self (JB l0)
  go_wp2_with fail
  refine (toJobS_any A0 n0 cap0 (JB l0) _ a_0 hz0).mono ?_
  rintro e w1 ⟨A_t, c_t, rfl, R_t, b1⟩
  have L_a_t := fun hn => a_0.lt hn
  have G_t : w.heap.size ≤ w.heap.size := Nat.le_refl _
  have a_1 := a_0.below b1
  clear a_0
  have F_1 := b1
  have t_1 := R_t
  clear R_t
  have e1 := specDueJobs_any A_t n0 c_t l0 time w1 t_1.sl hl0 hm0
  rw [HQ.out.2, HQ.out.1] at e1
  go_wp2_with fail
  refine (e1).mono ?_
  rintro e w2 ⟨A_r, c_r, rfl, R_r, b2⟩
  have L_a_r := fun hn => a_1.lt hn
  have L_t_r := t_1.lt
  have G_r : w.heap.size ≤ w1.heap.size := F_1.size
  have a_2 := a_1.below b2
  clear a_1
  have t_2 := t_1.below b2
  clear t_1
  have F_2 := bthen F_1 b2
  have r_2 := R_r
  clear R_r
  clear e1
  go_wp2_with fail
  refine (toJobS_any A0 n0 cap0 (JB l0) _ a_2 hz0).mono ?_
  rintro e w3 ⟨A_x, c_x, rfl, R_x, b3⟩
  have L_a_x := fun hn => a_2.lt hn
  have L_t_x := t_2.lt
  have L_r_x := r_2.lt
  have G_x : w.heap.size ≤ w2.heap.size := F_2.size
  have a_3 := a_2.below b3
  clear a_2
  have t_3 := t_2.below b3
  clear t_2
  have r_3 := r_2.below b3
  clear r_2
  have F_3 := bthen F_2 b3
  have x_3 := R_x
  clear R_x
  have e2 := dueJobs_any A_x n0 c_x l0 time w3 x_3.sl hl0 hm0
  rw [HQ.out.2, HQ.out.1] at e2
  go_wp2_with fail
  refine (e2).mono ?_
  rintro e w4 ⟨A_g, c_g, rfl, R_g, b4⟩
  have L_a_g := fun hn => a_3.lt hn
  have L_t_g := t_3.lt
  have L_r_g := r_3.lt
  have L_x_g := x_3.lt
  have G_g : w.heap.size ≤ w3.heap.size := F_3.size
  have a_4 := a_3.below b4
  clear a_3
  have t_4 := t_3.below b4
  clear t_3
  have r_4 := r_3.below b4
  clear r_3
  have x_4 := x_3.below b4
  clear x_3
  have F_4 := bthen F_3 b4
  have g_4 := R_g
  clear R_g
  clear e2
  go_wp2_with fail
  refine (eqInt64S_any A_g A_r nz nz c_g c_r Z Z _ g_4.sl r_4.sl hzm hzm).mono ?_
  rintro e w5 ⟨rfl, b5⟩
  have a_5 := a_4.below b5
  clear a_4
  have t_5 := t_4.below b5
  clear t_4
  have r_5 := r_4.below b5
  clear r_4
  have x_5 := x_4.below b5
  clear x_4
  have g_5 := g_4.below b5
  clear g_4
  have F_5 := bthen F_4 b5
  go_wp2_with fail
  refine (toJobS_any A0 n0 cap0 (JB l0) _ a_5 hz0).mono ?_
  rintro e w6 ⟨A_v, c_v, rfl, R_v, b6⟩
  have L_a_v := fun hn => a_5.lt hn
  have L_t_v := t_5.lt
  have L_r_v := r_5.lt
  have L_x_v := x_5.lt
  have L_g_v := g_5.lt
  have G_v : w.heap.size ≤ w5.heap.size := F_5.size
  have a_6 := a_5.below b6
  clear a_5
  have t_6 := t_5.below b6
  clear t_5
  have r_6 := r_5.below b6
  clear r_5
  have x_6 := x_5.below b6
  clear x_5
  have g_6 := g_5.below b6
  clear g_5
  have F_6 := bthen F_5 b6
  have v_6 := R_v
  clear R_v
  go_wp2_with fail
  refine (eqJobS_any A_x A_v n0 n0 c_x c_v (JB l0) (JB l0) _ x_6.sl v_6.sl hm0 hm0).mono ?_
  rintro e w7 ⟨rfl, b7⟩
  have a_7 := a_6.below b7
  clear a_6
  have t_7 := t_6.below b7
  clear t_6
  have r_7 := r_6.below b7
  clear r_6
  have x_7 := x_6.below b7
  clear x_6
  have g_7 := g_6.below b7
  clear g_6
  have v_7 := v_6.below b7
  clear v_6
  have F_7 := bthen F_6 b7
  go_wp2_with fail
  refine (markJobS_any _ A_x n0 c_x _ 1 _ x_7 hz0 (by omega) (by omega)).mono ?_
  rintro e w8 ⟨rfl, R_x, hw8⟩
  have F_8 := hw8.below F_7 F_7.size (fun y hy => Nat.le_trans G_x (x_7.ge y hy))
  have a_8 := a_7.wrote hw8 (fun hn => apart_of (L_a_x hn) x_7.ge)
  clear a_7
  have t_8 := t_7.wrote hw8 (apart_of L_t_x x_7.ge)
  clear t_7
  have r_8 := r_7.wrote hw8 (apart_of L_r_x x_7.ge)
  clear r_7
  have x_8 := R_x
  clear R_x x_7
  have g_8 := g_7.wrote hw8 (apart_symm (apart_of L_x_g g_7.ge))
  clear g_7
  have v_8 := v_7.wrote hw8 (apart_symm (apart_of L_x_v v_7.ge))
  clear v_7
  go_wp2_with fail
  refine (eqInt64S_any A_g A_r nz nz c_g c_r Z Z _ g_8.sl r_8.sl hzm hzm).mono ?_
  rintro e w9 ⟨rfl, b9⟩
  have a_9 := a_8.below b9
  clear a_8
  have t_9 := t_8.below b9
  clear t_8
  have r_9 := r_8.below b9
  clear r_8
  have x_9 := x_8.below b9
  clear x_8
  have g_9 := g_8.below b9
  clear g_8
  have v_9 := v_8.below b9
  clear v_8
  have F_9 := bthen F_8 b9
  go_wp2_with fail
  refine (markInt64S_any _ A_g nz c_g _ 1 _ g_9 hz20 (by omega) (by omega)).mono ?_
  rintro e w10 ⟨rfl, R_g, hw10⟩
  have F_10 := hw10.below F_9 F_9.size (fun y hy => Nat.le_trans G_g (g_9.ge y hy))
  have a_10 := a_9.wrote hw10 (fun hn => apart_of (L_a_g hn) g_9.ge)
  clear a_9
  have t_10 := t_9.wrote hw10 (apart_of L_t_g g_9.ge)
  clear t_9
  have r_10 := r_9.wrote hw10 (apart_of L_r_g g_9.ge)
  clear r_9
  have x_10 := x_9.wrote hw10 (apart_of L_x_g g_9.ge)
  clear x_9
  have g_10 := R_g
  clear R_g g_9
  have v_10 := v_9.wrote hw10 (apart_symm (apart_of L_g_v v_9.ge))
  clear v_9
  go_wp2_with fail
  refine (heldInt64S_any A_g nz c_g 1 _ g_10.sl hz20 (by omega) (by omega)).mono ?_
  rintro e w' ⟨rfl, rfl⟩
  go_wp2_with fail
  refine (toJobS_any A0 n0 cap0 (JB l0) _ a_10 hz0).mono ?_
  rintro e w11 ⟨A_y, c_y, rfl, R_y, b11⟩
  have L_a_y := fun hn => a_10.lt hn
  have L_t_y := t_10.lt
  have L_r_y := r_10.lt
  have L_x_y := x_10.lt
  have L_g_y := g_10.lt
  have L_v_y := v_10.lt
  have G_y : w.heap.size ≤ w10.heap.size := F_10.size
  have a_11 := a_10.below b11
  clear a_10
  have t_11 := t_10.below b11
  clear t_10
  have r_11 := r_10.below b11
  clear r_10
  have x_11 := x_10.below b11
  clear x_10
  have g_11 := g_10.below b11
  clear g_10
  have v_11 := v_10.below b11
  clear v_10
  have F_11 := bthen F_10 b11
  have y_11 := R_y
  clear R_y
  have e3 := dueJobs_any A_y n0 c_y l0 time w11 y_11.sl hl0 hm0
  rw [HQ.out.2, HQ.out.1] at e3
  go_wp2_with fail
  refine (e3).mono ?_
  rintro e w12 ⟨A_h, c_h, rfl, R_h, b12⟩
  have L_a_h := fun hn => a_11.lt hn
  have L_t_h := t_11.lt
  have L_r_h := r_11.lt
  have L_x_h := x_11.lt
  have L_g_h := g_11.lt
  have L_v_h := v_11.lt
  have L_y_h := y_11.lt
  have G_h : w.heap.size ≤ w11.heap.size := F_11.size
  have a_12 := a_11.below b12
  clear a_11
  have t_12 := t_11.below b12
  clear t_11
  have r_12 := r_11.below b12
  clear r_11
  have x_12 := x_11.below b12
  clear x_11
  have g_12 := g_11.below b12
  clear g_11
  have v_12 := v_11.below b12
  clear v_11
  have y_12 := y_11.below b12
  clear y_11
  have F_12 := bthen F_11 b12
  have h_12 := R_h
  clear R_h
  clear e3
  go_wp2_with fail
  refine (eqInt64S_any A_h A_r nz nz c_h c_r Z Z _ h_12.sl r_12.sl hzm hzm).mono ?_
  rintro e w13 ⟨rfl, b13⟩
  have a_13 := a_12.below b13
  clear a_12
  have t_13 := t_12.below b13
  clear t_12
  have r_13 := r_12.below b13
  clear r_12
  have x_13 := x_12.below b13
  clear x_12
  have g_13 := g_12.below b13
  clear g_12
  have v_13 := v_12.below b13
  clear v_12
  have y_13 := y_12.below b13
  clear y_12
  have h_13 := h_12.below b13
  clear h_12
  have F_13 := bthen F_12 b13
  go_wp2_with fail
  refine (heldInt64S_any A_g nz c_g 1 _ g_13.sl hz20 (by omega) (by omega)).mono ?_
  rintro e w' ⟨rfl, rfl⟩
  go_wp2
  go_ret
  exact ⟨rfl, bstep F_13 B0 B0.size⟩
end Go.Proofs.Ytgpllffiahccjaa

/- The walk of the law FnExactUnlikeIn. -/
import Derived.Test.YtpejbpmccmbedaaP5
import Derived.Test.YtpejbpmccmbedaaSPair
namespace Go.Proofs.Ytpejbpmccmbedaa
set_option linter.unusedSimpArgs false
set_option linter.unusedVariables false
attribute [local go_sem] n_lt2 n_lt3 n_lt4 n_le2 n_le3
open Go.RowKit
attribute [local go_sem] Ext.cell Ext.frozen

set_option maxHeartbeats 4000000 in
theorem law_ExactUnlikeIn (A0 : Option Addr) (n0 cap0 : Nat) (zs0 : List Int) (A1 : Option Addr) (n1 cap1 : Nat) (zs1 : List Int) (w : World) (hS0 : Sl w 2 A0 n0 zs0) (hn0 : n0 ≤ cap0) (hc0 : cap0 ≤ maxLen) (hS1 : Sl w 2 A1 n1 zs1) (hn1 : n1 ≤ cap1) (hc1 : cap1 ≤ maxLen) :
    Calls Try.prog 11 #[.slice A0 n0 cap0, .slice A1 n1 cap1] w fun e' w' => e' = .returned (.bool true) ∧ Below w.heap.size w w' := by
  have hm0 : n0 ≤ maxLen := Nat.le_trans hn0 hc0
  obtain ⟨l0, hl0, rfl⟩ := PR_of n0 zs0 hS0.len
  have a_0 := hS0
  clear hS0
  have hm1 : n1 ≤ maxLen := Nat.le_trans hn1 hc1
  obtain ⟨l1, hl1, rfl⟩ := PR_of n1 zs1 hS1.len
  have b_0 := hS1
  clear hS1
  by_cases hz0 : n0 ≤ 1048576
  rotate_left
  · have hh0 : 1048576 < n0 := by omega
    clear hz0
    go_enter Try.func11, Try.ntmps11
    go_wp2_with fail
    refine (szPairS_no _ _ _ _ _ (by omega) (by omega) (by omega) (Nat.le_trans hn0 hc0)).mono ?_
    rintro e w' ⟨rfl, rfl⟩
    go_wp2
    go_ret
    exact ⟨rfl, Below.refl _ _⟩
  by_cases hz1 : n0 + n1 ≤ 1048576
  rotate_left
  · have hh1 : 1048576 < n0 + n1 := by omega
    clear hz1
    go_enter Try.func11, Try.ntmps11
    go_wp2_with fail
    refine (szPairS_yes _ _ _ _ _ (by omega) (by omega)).mono ?_
    rintro e w' ⟨rfl, rfl⟩
    go_wp2_with fail
    refine (szPairS_no _ _ _ _ _ (by omega) (by omega) (by omega) (Nat.le_trans hn1 hc1)).mono ?_
    rintro e w' ⟨rfl, rfl⟩
    go_wp2
    go_ret
    exact ⟨rfl, Below.refl _ _⟩
  go_enter Try.func11, Try.ntmps11
  go_wp2_with fail
  have B0 : Below w.heap.size w w := Below.refl _ _
  refine (szPairS_yes _ _ _ _ _ (by omega) (by omega)).mono ?_
  rintro e w' ⟨rfl, rfl⟩
  go_wp2_with fail
  refine (szPairS_yes _ _ _ _ _ (by omega) (by omega)).mono ?_
  rintro e w' ⟨rfl, rfl⟩
  go_wp2_with fail
  refine (toPairS_any A0 n0 cap0 (PR l0) _ a_0 (by omega)).mono ?_
  rintro e w1 ⟨A_t, c_t, rfl, R_t, b1⟩
  have L_a_t := fun hn => a_0.lt hn
  have L_b_t := fun hn => b_0.lt hn
  have G_t : w.heap.size ≤ w.heap.size := Nat.le_refl _
  have a_1 := a_0.below b1
  clear a_0
  have b_1 := b_0.below b1
  clear b_0
  have F_1 := b1
  have t_1 := R_t
  clear R_t
  go_wp2_with fail
  refine (toPairS_any A1 n1 cap1 (PR l1) _ b_1 (by omega)).mono ?_
  rintro e w2 ⟨A_u, c_u, rfl, R_u, b2⟩
  have L_a_u := fun hn => a_1.lt hn
  have L_b_u := fun hn => b_1.lt hn
  have L_t_u := t_1.lt
  have G_u : w.heap.size ≤ w1.heap.size := F_1.size
  have a_2 := a_1.below b2
  clear a_1
  have b_2 := b_1.below b2
  clear b_1
  have t_2 := t_1.below b2
  clear t_1
  have F_2 := bthen F_1 b2
  have u_2 := R_u
  clear R_u
  have hzl := unlikeL_len l0 l1
  generalize hq : unlikeL l0 l1 = Z at hzl
  have hzm : Z.length ≤ maxLen := by unfold maxLen; omega
  have hz20 : Z.length ≤ 1048576 := by omega
  have heZ := eqL_self Z
  have he0 := eqL_self (PR l0)
  have he1 := eqL_self (PR l1)
  have e1 := specUnlikeIn_any A_t A_u n0 n1 c_t c_u l0 l1 w2 t_2.sl u_2.sl hl0 hl1 hm0 hm1
  rw [hq] at e1
  go_wp2_with fail
  refine (e1).mono ?_
  rintro e w3 ⟨A_r, c_r, rfl, R_r, b3⟩
  have L_a_r := fun hn => a_2.lt hn
  have L_b_r := fun hn => b_2.lt hn
  have L_t_r := t_2.lt
  have L_u_r := u_2.lt
  have G_r : w.heap.size ≤ w2.heap.size := F_2.size
  have a_3 := a_2.below b3
  clear a_2
  have b_3 := b_2.below b3
  clear b_2
  have t_3 := t_2.below b3
  clear t_2
  have u_3 := u_2.below b3
  clear u_2
  have F_3 := bthen F_2 b3
  have r_3 := R_r
  clear R_r
  go_wp2_with fail
  refine (toPairS_any A0 n0 cap0 (PR l0) _ a_3 (by omega)).mono ?_
  rintro e w4 ⟨A_x, c_x, rfl, R_x, b4⟩
  have L_a_x := fun hn => a_3.lt hn
  have L_b_x := fun hn => b_3.lt hn
  have L_t_x := t_3.lt
  have L_u_x := u_3.lt
  have L_r_x := r_3.lt
  have G_x : w.heap.size ≤ w3.heap.size := F_3.size
  have a_4 := a_3.below b4
  clear a_3
  have b_4 := b_3.below b4
  clear b_3
  have t_4 := t_3.below b4
  clear t_3
  have u_4 := u_3.below b4
  clear u_3
  have r_4 := r_3.below b4
  clear r_3
  have F_4 := bthen F_3 b4
  have x_4 := R_x
  clear R_x
  go_wp2_with fail
  refine (toPairS_any A1 n1 cap1 (PR l1) _ b_4 (by omega)).mono ?_
  rintro e w5 ⟨A_y, c_y, rfl, R_y, b5⟩
  have L_a_y := fun hn => a_4.lt hn
  have L_b_y := fun hn => b_4.lt hn
  have L_t_y := t_4.lt
  have L_u_y := u_4.lt
  have L_r_y := r_4.lt
  have L_x_y := x_4.lt
  have G_y : w.heap.size ≤ w4.heap.size := F_4.size
  have a_5 := a_4.below b5
  clear a_4
  have b_5 := b_4.below b5
  clear b_4
  have t_5 := t_4.below b5
  clear t_4
  have u_5 := u_4.below b5
  clear u_4
  have r_5 := r_4.below b5
  clear r_4
  have x_5 := x_4.below b5
  clear x_4
  have F_5 := bthen F_4 b5
  have y_5 := R_y
  clear R_y
  have e2 := unlikeIn_any A_x A_y n0 n1 c_x c_y l0 l1 w5 x_5.sl y_5.sl hl0 hl1 hm0 hm1
  rw [hq] at e2
  go_wp2_with fail
  refine (e2).mono ?_
  rintro e w6 ⟨A_g, c_g, rfl, R_g, b6⟩
  have L_a_g := fun hn => a_5.lt hn
  have L_b_g := fun hn => b_5.lt hn
  have L_t_g := t_5.lt
  have L_u_g := u_5.lt
  have L_r_g := r_5.lt
  have L_x_g := x_5.lt
  have L_y_g := y_5.lt
  have G_g : w.heap.size ≤ w5.heap.size := F_5.size
  have a_6 := a_5.below b6
  clear a_5
  have b_6 := b_5.below b6
  clear b_5
  have t_6 := t_5.below b6
  clear t_5
  have u_6 := u_5.below b6
  clear u_5
  have r_6 := r_5.below b6
  clear r_5
  have x_6 := x_5.below b6
  clear x_5
  have y_6 := y_5.below b6
  clear y_5
  have F_6 := bthen F_5 b6
  have g_6 := R_g
  clear R_g
  go_wp2_with fail
  refine (eqInt64S_any A_g A_r Z.length Z.length c_g c_r Z Z _ g_6.sl r_6.sl hzm hzm).mono ?_
  rintro e w7 ⟨rfl, b7⟩
  have a_7 := a_6.below b7
  clear a_6
  have b_7 := b_6.below b7
  clear b_6
  have t_7 := t_6.below b7
  clear t_6
  have u_7 := u_6.below b7
  clear u_6
  have r_7 := r_6.below b7
  clear r_6
  have x_7 := x_6.below b7
  clear x_6
  have y_7 := y_6.below b7
  clear y_6
  have g_7 := g_6.below b7
  clear g_6
  have F_7 := bthen F_6 b7
  go_wp2_with fail
  refine (toPairS_any A0 n0 cap0 (PR l0) _ a_7 (by omega)).mono ?_
  rintro e w8 ⟨A_v, c_v, rfl, R_v, b8⟩
  have L_a_v := fun hn => a_7.lt hn
  have L_b_v := fun hn => b_7.lt hn
  have L_t_v := t_7.lt
  have L_u_v := u_7.lt
  have L_r_v := r_7.lt
  have L_x_v := x_7.lt
  have L_y_v := y_7.lt
  have L_g_v := g_7.lt
  have G_v : w.heap.size ≤ w7.heap.size := F_7.size
  have a_8 := a_7.below b8
  clear a_7
  have b_8 := b_7.below b8
  clear b_7
  have t_8 := t_7.below b8
  clear t_7
  have u_8 := u_7.below b8
  clear u_7
  have r_8 := r_7.below b8
  clear r_7
  have x_8 := x_7.below b8
  clear x_7
  have y_8 := y_7.below b8
  clear y_7
  have g_8 := g_7.below b8
  clear g_7
  have F_8 := bthen F_7 b8
  have v_8 := R_v
  clear R_v
  go_wp2_with fail
  refine (eqPairS_any A_x A_v n0 n0 c_x c_v (PR l0) (PR l0) _ x_8.sl v_8.sl hm0 hm0).mono ?_
  rintro e w9 ⟨rfl, b9⟩
  have a_9 := a_8.below b9
  clear a_8
  have b_9 := b_8.below b9
  clear b_8
  have t_9 := t_8.below b9
  clear t_8
  have u_9 := u_8.below b9
  clear u_8
  have r_9 := r_8.below b9
  clear r_8
  have x_9 := x_8.below b9
  clear x_8
  have y_9 := y_8.below b9
  clear y_8
  have g_9 := g_8.below b9
  clear g_8
  have v_9 := v_8.below b9
  clear v_8
  have F_9 := bthen F_8 b9
  go_wp2_with fail
  refine (toPairS_any A1 n1 cap1 (PR l1) _ b_9 (by omega)).mono ?_
  rintro e w10 ⟨A_z, c_z, rfl, R_z, b10⟩
  have L_a_z := fun hn => a_9.lt hn
  have L_b_z := fun hn => b_9.lt hn
  have L_t_z := t_9.lt
  have L_u_z := u_9.lt
  have L_r_z := r_9.lt
  have L_x_z := x_9.lt
  have L_y_z := y_9.lt
  have L_g_z := g_9.lt
  have L_v_z := v_9.lt
  have G_z : w.heap.size ≤ w9.heap.size := F_9.size
  have a_10 := a_9.below b10
  clear a_9
  have b_10 := b_9.below b10
  clear b_9
  have t_10 := t_9.below b10
  clear t_9
  have u_10 := u_9.below b10
  clear u_9
  have r_10 := r_9.below b10
  clear r_9
  have x_10 := x_9.below b10
  clear x_9
  have y_10 := y_9.below b10
  clear y_9
  have g_10 := g_9.below b10
  clear g_9
  have v_10 := v_9.below b10
  clear v_9
  have F_10 := bthen F_9 b10
  have z_10 := R_z
  clear R_z
  go_wp2_with fail
  refine (eqPairS_any A_y A_z n1 n1 c_y c_z (PR l1) (PR l1) _ y_10.sl z_10.sl hm1 hm1).mono ?_
  rintro e w11 ⟨rfl, b11⟩
  have a_11 := a_10.below b11
  clear a_10
  have b_11 := b_10.below b11
  clear b_10
  have t_11 := t_10.below b11
  clear t_10
  have u_11 := u_10.below b11
  clear u_10
  have r_11 := r_10.below b11
  clear r_10
  have x_11 := x_10.below b11
  clear x_10
  have y_11 := y_10.below b11
  clear y_10
  have g_11 := g_10.below b11
  clear g_10
  have v_11 := v_10.below b11
  clear v_10
  have z_11 := z_10.below b11
  clear z_10
  have F_11 := bthen F_10 b11
  go_wp2_with fail
  refine (markPairS_any _ A_x n0 c_x _ 1 _ x_11 (by omega) (by omega) (by omega)).mono ?_
  rintro e w12 ⟨rfl, R_x, hw12⟩
  have F_12 := hw12.below F_11 F_11.size (fun y hy => Nat.le_trans G_x (x_11.ge y hy))
  have a_12 := a_11.wrote hw12 (fun hn => apart_of (L_a_x hn) x_11.ge)
  clear a_11
  have b_12 := b_11.wrote hw12 (fun hn => apart_of (L_b_x hn) x_11.ge)
  clear b_11
  have t_12 := t_11.wrote hw12 (apart_of L_t_x x_11.ge)
  clear t_11
  have u_12 := u_11.wrote hw12 (apart_of L_u_x x_11.ge)
  clear u_11
  have r_12 := r_11.wrote hw12 (apart_of L_r_x x_11.ge)
  clear r_11
  have x_12 := R_x
  clear R_x x_11
  have y_12 := y_11.wrote hw12 (apart_symm (apart_of L_x_y y_11.ge))
  clear y_11
  have g_12 := g_11.wrote hw12 (apart_symm (apart_of L_x_g g_11.ge))
  clear g_11
  have v_12 := v_11.wrote hw12 (apart_symm (apart_of L_x_v v_11.ge))
  clear v_11
  have z_12 := z_11.wrote hw12 (apart_symm (apart_of L_x_z z_11.ge))
  clear z_11
  go_wp2_with fail
  refine (markPairS_any _ A_y n1 c_y _ (1 + (n0 * 2 : Nat)) _ y_12 (by omega) (by omega) (by omega)).mono ?_
  rintro e w13 ⟨rfl, R_y, hw13⟩
  have F_13 := hw13.below F_12 F_12.size (fun y hy => Nat.le_trans G_y (y_12.ge y hy))
  have a_13 := a_12.wrote hw13 (fun hn => apart_of (L_a_y hn) y_12.ge)
  clear a_12
  have b_13 := b_12.wrote hw13 (fun hn => apart_of (L_b_y hn) y_12.ge)
  clear b_12
  have t_13 := t_12.wrote hw13 (apart_of L_t_y y_12.ge)
  clear t_12
  have u_13 := u_12.wrote hw13 (apart_of L_u_y y_12.ge)
  clear u_12
  have r_13 := r_12.wrote hw13 (apart_of L_r_y y_12.ge)
  clear r_12
  have x_13 := x_12.wrote hw13 (apart_of L_x_y y_12.ge)
  clear x_12
  have y_13 := R_y
  clear R_y y_12
  have g_13 := g_12.wrote hw13 (apart_symm (apart_of L_y_g g_12.ge))
  clear g_12
  have v_13 := v_12.wrote hw13 (apart_symm (apart_of L_y_v v_12.ge))
  clear v_12
  have z_13 := z_12.wrote hw13 (apart_symm (apart_of L_y_z z_12.ge))
  clear z_12
  go_wp2_with fail
  refine (eqInt64S_any A_g A_r Z.length Z.length c_g c_r Z Z _ g_13.sl r_13.sl hzm hzm).mono ?_
  rintro e w14 ⟨rfl, b14⟩
  have a_14 := a_13.below b14
  clear a_13
  have b_14 := b_13.below b14
  clear b_13
  have t_14 := t_13.below b14
  clear t_13
  have u_14 := u_13.below b14
  clear u_13
  have r_14 := r_13.below b14
  clear r_13
  have x_14 := x_13.below b14
  clear x_13
  have y_14 := y_13.below b14
  clear y_13
  have g_14 := g_13.below b14
  clear g_13
  have v_14 := v_13.below b14
  clear v_13
  have z_14 := z_13.below b14
  clear z_13
  have F_14 := bthen F_13 b14
  go_wp2_with fail
  refine (markInt64S_any _ A_g Z.length c_g _ 1 _ g_14 hz20 (by omega) (by omega)).mono ?_
  rintro e w15 ⟨rfl, R_g, hw15⟩
  have F_15 := hw15.below F_14 F_14.size (fun y hy => Nat.le_trans G_g (g_14.ge y hy))
  have a_15 := a_14.wrote hw15 (fun hn => apart_of (L_a_g hn) g_14.ge)
  clear a_14
  have b_15 := b_14.wrote hw15 (fun hn => apart_of (L_b_g hn) g_14.ge)
  clear b_14
  have t_15 := t_14.wrote hw15 (apart_of L_t_g g_14.ge)
  clear t_14
  have u_15 := u_14.wrote hw15 (apart_of L_u_g g_14.ge)
  clear u_14
  have r_15 := r_14.wrote hw15 (apart_of L_r_g g_14.ge)
  clear r_14
  have x_15 := x_14.wrote hw15 (apart_of L_x_g g_14.ge)
  clear x_14
  have y_15 := y_14.wrote hw15 (apart_of L_y_g g_14.ge)
  clear y_14
  have g_15 := R_g
  clear R_g g_14
  have v_15 := v_14.wrote hw15 (apart_symm (apart_of L_g_v v_14.ge))
  clear v_14
  have z_15 := z_14.wrote hw15 (apart_symm (apart_of L_g_z z_14.ge))
  clear z_14
  go_wp2_with fail
  refine (heldInt64S_any A_g Z.length c_g 1 _ g_15.sl hz20 (by omega) (by omega)).mono ?_
  rintro e w' ⟨rfl, rfl⟩
  go_wp2_with fail
  refine (toPairS_any A0 n0 cap0 (PR l0) _ a_15 (by omega)).mono ?_
  rintro e w16 ⟨A_a2, c_a2, rfl, R_a2, b16⟩
  have L_a_a2 := fun hn => a_15.lt hn
  have L_b_a2 := fun hn => b_15.lt hn
  have L_t_a2 := t_15.lt
  have L_u_a2 := u_15.lt
  have L_r_a2 := r_15.lt
  have L_x_a2 := x_15.lt
  have L_y_a2 := y_15.lt
  have L_g_a2 := g_15.lt
  have L_v_a2 := v_15.lt
  have L_z_a2 := z_15.lt
  have G_a2 : w.heap.size ≤ w15.heap.size := F_15.size
  have a_16 := a_15.below b16
  clear a_15
  have b_16 := b_15.below b16
  clear b_15
  have t_16 := t_15.below b16
  clear t_15
  have u_16 := u_15.below b16
  clear u_15
  have r_16 := r_15.below b16
  clear r_15
  have x_16 := x_15.below b16
  clear x_15
  have y_16 := y_15.below b16
  clear y_15
  have g_16 := g_15.below b16
  clear g_15
  have v_16 := v_15.below b16
  clear v_15
  have z_16 := z_15.below b16
  clear z_15
  have F_16 := bthen F_15 b16
  have a2_16 := R_a2
  clear R_a2
  go_wp2_with fail
  refine (toPairS_any A1 n1 cap1 (PR l1) _ b_16 (by omega)).mono ?_
  rintro e w17 ⟨A_b2, c_b2, rfl, R_b2, b17⟩
  have L_a_b2 := fun hn => a_16.lt hn
  have L_b_b2 := fun hn => b_16.lt hn
  have L_t_b2 := t_16.lt
  have L_u_b2 := u_16.lt
  have L_r_b2 := r_16.lt
  have L_x_b2 := x_16.lt
  have L_y_b2 := y_16.lt
  have L_g_b2 := g_16.lt
  have L_v_b2 := v_16.lt
  have L_z_b2 := z_16.lt
  have L_a2_b2 := a2_16.lt
  have G_b2 : w.heap.size ≤ w16.heap.size := F_16.size
  have a_17 := a_16.below b17
  clear a_16
  have b_17 := b_16.below b17
  clear b_16
  have t_17 := t_16.below b17
  clear t_16
  have u_17 := u_16.below b17
  clear u_16
  have r_17 := r_16.below b17
  clear r_16
  have x_17 := x_16.below b17
  clear x_16
  have y_17 := y_16.below b17
  clear y_16
  have g_17 := g_16.below b17
  clear g_16
  have v_17 := v_16.below b17
  clear v_16
  have z_17 := z_16.below b17
  clear z_16
  have a2_17 := a2_16.below b17
  clear a2_16
  have F_17 := bthen F_16 b17
  have b2_17 := R_b2
  clear R_b2
  have e3 := unlikeIn_any A_a2 A_b2 n0 n1 c_a2 c_b2 l0 l1 w17 a2_17.sl b2_17.sl hl0 hl1 hm0 hm1
  rw [hq] at e3
  go_wp2_with fail
  refine (e3).mono ?_
  rintro e w18 ⟨A_h, c_h, rfl, R_h, b18⟩
  have L_a_h := fun hn => a_17.lt hn
  have L_b_h := fun hn => b_17.lt hn
  have L_t_h := t_17.lt
  have L_u_h := u_17.lt
  have L_r_h := r_17.lt
  have L_x_h := x_17.lt
  have L_y_h := y_17.lt
  have L_g_h := g_17.lt
  have L_v_h := v_17.lt
  have L_z_h := z_17.lt
  have L_a2_h := a2_17.lt
  have L_b2_h := b2_17.lt
  have G_h : w.heap.size ≤ w17.heap.size := F_17.size
  have a_18 := a_17.below b18
  clear a_17
  have b_18 := b_17.below b18
  clear b_17
  have t_18 := t_17.below b18
  clear t_17
  have u_18 := u_17.below b18
  clear u_17
  have r_18 := r_17.below b18
  clear r_17
  have x_18 := x_17.below b18
  clear x_17
  have y_18 := y_17.below b18
  clear y_17
  have g_18 := g_17.below b18
  clear g_17
  have v_18 := v_17.below b18
  clear v_17
  have z_18 := z_17.below b18
  clear z_17
  have a2_18 := a2_17.below b18
  clear a2_17
  have b2_18 := b2_17.below b18
  clear b2_17
  have F_18 := bthen F_17 b18
  have h_18 := R_h
  clear R_h
  go_wp2_with fail
  refine (eqInt64S_any A_h A_r Z.length Z.length c_h c_r Z Z _ h_18.sl r_18.sl hzm hzm).mono ?_
  rintro e w19 ⟨rfl, b19⟩
  have a_19 := a_18.below b19
  clear a_18
  have b_19 := b_18.below b19
  clear b_18
  have t_19 := t_18.below b19
  clear t_18
  have u_19 := u_18.below b19
  clear u_18
  have r_19 := r_18.below b19
  clear r_18
  have x_19 := x_18.below b19
  clear x_18
  have y_19 := y_18.below b19
  clear y_18
  have g_19 := g_18.below b19
  clear g_18
  have v_19 := v_18.below b19
  clear v_18
  have z_19 := z_18.below b19
  clear z_18
  have a2_19 := a2_18.below b19
  clear a2_18
  have b2_19 := b2_18.below b19
  clear b2_18
  have h_19 := h_18.below b19
  clear h_18
  have F_19 := bthen F_18 b19
  go_wp2_with fail
  refine (heldInt64S_any A_g Z.length c_g 1 _ g_19.sl hz20 (by omega) (by omega)).mono ?_
  rintro e w' ⟨rfl, rfl⟩
  go_wp2
  go_ret
  exact ⟨rfl, bstep F_19 B0 B0.size⟩
end Go.Proofs.Ytpejbpmccmbedaa

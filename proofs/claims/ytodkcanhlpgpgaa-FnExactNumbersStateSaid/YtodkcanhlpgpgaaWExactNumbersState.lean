/- The walk of the law FnExactNumbersState. -/
import Derived.Test.YtodkcanhlpgpgaaSInt64
import Derived.Test.YtodkcanhlpgpgaaSt1
import Derived.Test.YtodkcanhlpgpgaaStM
import Derived.Test.YtodkcanhlpgpgaaN7
namespace Go.Proofs.Ytodkcanhlpgpgaa
set_option linter.unusedSimpArgs false
set_option linter.unusedVariables false
attribute [local go_sem] n_lt2 n_lt3 n_lt4 n_le2 n_le3
open Go.RowKit
attribute [local go_sem] Ext.cell Ext.frozen

set_option maxRecDepth 100000 in
set_option maxHeartbeats 6000000 in
theorem law_ExactNumbersState (A0 : Option Addr) (n0 cap0 : Nat) (zs0 : List Int) (w : World) (hS0 : Sl w 1 A0 n0 zs0) (hn0 : n0 ≤ cap0) (hc0 : cap0 ≤ maxLen) :
    Calls Try.prog 8 #[.slice A0 n0 cap0] w fun e' w' => e' = .returned (.bool true) ∧ Below w.heap.size w w' := by
  have hm0 : n0 ≤ maxLen := Nat.le_trans hn0 hc0
  have a_0 := hS0
  clear hS0
  by_cases hz0 : n0 ≤ 1048576
  rotate_left
  · have hh0 : (1048576 : Int) < (n0 : Int) := by omega
    have hm0' := hm0
    unfold maxLen at hm0'
    clear hz0
    go_enter Try.func8, Try.ntmps8
    go_wp2
    go_ret
    exact ⟨rfl, Below.refl _ _⟩
  have hh0 : (n0 : Int) ≤ 1048576 := by omega
  go_enter Try.func8, Try.ntmps8
  go_wp2_with fail
  have B0 : Below w.heap.size w w := Below.refl _ _
  obtain ⟨ri, rt, rh, re, ru, rn, rm, rz, ry, rb, hv, hrn, hrm⟩ : ∃ ri rt rh re ru rn rm rz ry rb, SParts (numR zs0) ri rt rh re ru rn rm rz ry rb ∧ rn ≤ 10 ∧ rm ≤ 8 := ⟨_, _, _, _, _, _, _, _, _, _, ⟨rfl, rfl, rfl, rfl, rfl, rfl, rfl, rfl, rfl, rfl⟩, numR_len zs0⟩
  have HV := Lib.hid hv
  clear hv
  have hrnm : rn ≤ maxLen := by unfold maxLen; omega
  have hrmm : rm ≤ maxLen := by unfold maxLen; omega
  have hrn2 : rn ≤ 1048576 := by omega
  have hrm2 : rm ≤ 1048576 := by omega
  have he0 := eqL_self zs0
  refine (toInt64S_any A0 n0 cap0 zs0 _ a_0 hz0).mono ?_
  rintro e w1 ⟨A_t, c_t, rfl, R_t, b1⟩
  have L_a_t := fun hn => a_0.lt hn
  have G_t : w.heap.size ≤ w.heap.size := Nat.le_refl _
  have a_1 := a_0.below b1
  clear a_0
  have F_1 := b1
  have t_1 := R_t
  clear R_t
  go_wp2_with fail
  refine (specNumbersState_r A_t n0 c_t zs0 w1 t_1.sl hm0 t_1.cap_le.1 HV.out).mono ?_
  rintro e w2 ⟨A_r, c_r, B_r, d_r, rfl, R_rp, R_rq, HAP_r, b2⟩
  have L_a_rp := fun hn => a_1.lt hn
  have L_t_rp := t_1.lt
  have G_rp : w.heap.size ≤ w1.heap.size := F_1.size
  have L_a_rq := fun hn => a_1.lt hn
  have L_t_rq := t_1.lt
  have G_rq : w.heap.size ≤ w1.heap.size := F_1.size
  have a_2 := a_1.below b2
  clear a_1
  have t_2 := t_1.below b2
  clear t_1
  have F_2 := bthen F_1 b2
  have rp_2 := R_rp
  clear R_rp
  have rq_2 := R_rq
  clear R_rq
  clear t_2
  have N_rp_Xr := rp_2.lt
  have N_rq_Xr := rq_2.lt
  go_wp2_with fail
  refine calls_named ?_
  rintro w3 hw3
  have Xr_2 : Blk w3 w2.heap.size 34 #[.int .i64 ri, .int .i64 rt, .slice A_r rn c_r, .slice B_r rm d_r, .int .i64 rh, .int .i64 re, .int .i64 ru] := by rw [hw3]; exact (Blk.new _ _ _)
  have b3 : Below w2.heap.size w2 w3 := by rw [hw3]; (repeat' (first | (with_reducible exact Below.refl _ _) | (with_reducible assumption) | (with_reducible refine Below.alloc ?_ ?_ _) | (with_reducible refine Below.drew ?_) | (with_reducible refine Below.setCell ?_ ?_ _) | (with_reducible refine bstep (by assumption) ?_ ?_) | (with_reducible exact Nat.le_refl _) | omega | (simp [*]; done) | (simp [*]; omega)))
  clear hw3
  have a_3 := a_2.below b3
  clear a_2
  have rp_3 := rp_2.below b3
  clear rp_2
  have rq_3 := rq_2.below b3
  clear rq_2
  have F_3 := bthen F_2 b3
  have Xr_3 := Xr_2
  refine (toInt64S_any A0 n0 cap0 zs0 _ a_3 hz0).mono ?_
  rintro e w4 ⟨A_x, c_x, rfl, R_x, b4⟩
  have M_Xr_x := Xr_3.lt
  have L_a_x := fun hn => a_3.lt hn
  have L_rp_x := rp_3.lt
  have L_rq_x := rq_3.lt
  have G_x : w.heap.size ≤ w3.heap.size := F_3.size
  have a_4 := a_3.below b4
  clear a_3
  have rp_4 := rp_3.below b4
  clear rp_3
  have rq_4 := rq_3.below b4
  clear rq_3
  have Xr_4 := Xr_3.below b4
  clear Xr_3
  have F_4 := bthen F_3 b4
  have x_4 := R_x
  clear R_x
  go_wp2_with fail
  refine (numbersState_r A_x n0 c_x zs0 w4 x_4.sl hz0 x_4.cap_le.1 x_4.cap_le.2 x_4.lt HV.out).mono ?_
  rintro e w5 ⟨A_g, c_g, B_g, d_g, rfl, R_gp, R_gq, HAP_g, b5⟩
  have M_Xr_gp := Xr_4.lt
  have M_Xr_gq := Xr_4.lt
  have L_a_gp := fun hn => a_4.lt hn
  have L_rp_gp := rp_4.lt
  have L_rq_gp := rq_4.lt
  have L_x_gp := x_4.lt
  have G_gp : w.heap.size ≤ w4.heap.size := F_4.size
  have L_a_gq := fun hn => a_4.lt hn
  have L_rp_gq := rp_4.lt
  have L_rq_gq := rq_4.lt
  have L_x_gq := x_4.lt
  have G_gq : w.heap.size ≤ w4.heap.size := F_4.size
  have a_5 := a_4.below b5
  clear a_4
  have rp_5 := rp_4.below b5
  clear rp_4
  have rq_5 := rq_4.below b5
  clear rq_4
  have Xr_5 := Xr_4.below b5
  clear Xr_4
  have x_5 := x_4.below b5
  clear x_4
  have F_5 := bthen F_4 b5
  have gp_5 := R_gp
  clear R_gp
  have gq_5 := R_gq
  clear R_gq
  have lt_Xr := Xr_5.lt
  have r_Xr0 := Xr_5.cell 0
  have r_Xr1 := Xr_5.cell 1
  have r_Xr2 := Xr_5.cell 2
  have r_Xr3 := Xr_5.cell 3
  have r_Xr4 := Xr_5.cell 4
  have r_Xr5 := Xr_5.cell 5
  have r_Xr6 := Xr_5.cell 6
  simp only [List.getElem?_toArray, List.getElem?_cons_zero, List.getElem?_cons_succ] at r_Xr0 r_Xr1 r_Xr2 r_Xr3 r_Xr4 r_Xr5 r_Xr6
  have N_rp_Xg := rp_5.lt
  have N_rq_Xg := rq_5.lt
  have N_x_Xg := x_5.lt
  have N_gp_Xg := gp_5.lt
  have N_gq_Xg := gq_5.lt
  go_wp2_with fail
  refine calls_named ?_
  rintro w6 hw6
  have Xg_5 : Blk w6 w5.heap.size 34 #[.int .i64 ri, .int .i64 rt, .slice A_g rn c_g, .slice B_g rm d_g, .int .i64 rh, .int .i64 re, .int .i64 ru] := by rw [hw6]; exact (Blk.new _ _ _)
  have b6 : Below w5.heap.size w5 w6 := by rw [hw6]; (repeat' (first | (with_reducible exact Below.refl _ _) | (with_reducible assumption) | (with_reducible refine Below.alloc ?_ ?_ _) | (with_reducible refine Below.drew ?_) | (with_reducible refine Below.setCell ?_ ?_ _) | (with_reducible refine bstep (by assumption) ?_ ?_) | (with_reducible exact Nat.le_refl _) | omega | (simp [*]; done) | (simp [*]; omega)))
  clear hw6
  have a_6 := a_5.below b6
  clear a_5
  have rp_6 := rp_5.below b6
  clear rp_5
  have rq_6 := rq_5.below b6
  clear rq_5
  have Xr_6 := Xr_5.below b6
  clear Xr_5
  have x_6 := x_5.below b6
  clear x_5
  have gp_6 := gp_5.below b6
  clear gp_5
  have gq_6 := gq_5.below b6
  clear gq_5
  have F_6 := bthen F_5 b6
  have Xg_6 := Xg_5
  clear lt_Xr r_Xr0 r_Xr1 r_Xr2 r_Xr3 r_Xr4 r_Xr5 r_Xr6
  have lt_Xr := Xr_6.lt
  have r_Xr0 := Xr_6.cell 0
  have r_Xr1 := Xr_6.cell 1
  have r_Xr2 := Xr_6.cell 2
  have r_Xr3 := Xr_6.cell 3
  have r_Xr4 := Xr_6.cell 4
  have r_Xr5 := Xr_6.cell 5
  have r_Xr6 := Xr_6.cell 6
  simp only [List.getElem?_toArray, List.getElem?_cons_zero, List.getElem?_cons_succ] at r_Xr0 r_Xr1 r_Xr2 r_Xr3 r_Xr4 r_Xr5 r_Xr6
  refine (eqState_same A_g A_r rn c_g c_r B_g B_r rm d_g d_r ri rt rh re ru _ _ _ gp_6.sl gq_6.sl rp_6.sl rq_6.sl hrnm hrmm).mono ?_
  rintro e w7 ⟨rfl, b7⟩
  have a_7 := a_6.below b7
  clear a_6
  have rp_7 := rp_6.below b7
  clear rp_6
  have rq_7 := rq_6.below b7
  clear rq_6
  have Xr_7 := Xr_6.below b7
  clear Xr_6
  have x_7 := x_6.below b7
  clear x_6
  have gp_7 := gp_6.below b7
  clear gp_6
  have gq_7 := gq_6.below b7
  clear gq_6
  have Xg_7 := Xg_6.below b7
  clear Xg_6
  have F_7 := bthen F_6 b7
  clear lt_Xr r_Xr0 r_Xr1 r_Xr2 r_Xr3 r_Xr4 r_Xr5 r_Xr6
  go_wp2_with fail
  refine (toInt64S_any A0 n0 cap0 zs0 _ a_7 hz0).mono ?_
  rintro e w8 ⟨A_v, c_v, rfl, R_v, b8⟩
  have M_Xr_v := Xr_7.lt
  have M_Xg_v := Xg_7.lt
  have L_a_v := fun hn => a_7.lt hn
  have L_rp_v := rp_7.lt
  have L_rq_v := rq_7.lt
  have L_x_v := x_7.lt
  have L_gp_v := gp_7.lt
  have L_gq_v := gq_7.lt
  have G_v : w.heap.size ≤ w7.heap.size := F_7.size
  have a_8 := a_7.below b8
  clear a_7
  have rp_8 := rp_7.below b8
  clear rp_7
  have rq_8 := rq_7.below b8
  clear rq_7
  have Xr_8 := Xr_7.below b8
  clear Xr_7
  have x_8 := x_7.below b8
  clear x_7
  have gp_8 := gp_7.below b8
  clear gp_7
  have gq_8 := gq_7.below b8
  clear gq_7
  have Xg_8 := Xg_7.below b8
  clear Xg_7
  have F_8 := bthen F_7 b8
  have v_8 := R_v
  clear R_v
  go_wp2_with fail
  refine (eqInt64S_any A_x A_v n0 n0 c_x c_v zs0 zs0 _ x_8.sl v_8.sl hm0 hm0).mono ?_
  rintro e w9 ⟨rfl, b9⟩
  have a_9 := a_8.below b9
  clear a_8
  have rp_9 := rp_8.below b9
  clear rp_8
  have rq_9 := rq_8.below b9
  clear rq_8
  have Xr_9 := Xr_8.below b9
  clear Xr_8
  have x_9 := x_8.below b9
  clear x_8
  have gp_9 := gp_8.below b9
  clear gp_8
  have gq_9 := gq_8.below b9
  clear gq_8
  have Xg_9 := Xg_8.below b9
  clear Xg_8
  have v_9 := v_8.below b9
  clear v_8
  have F_9 := bthen F_8 b9
  clear v_9
  go_wp2_with fail
  refine (markInt64S_any _ A_x n0 c_x _ 1 _ x_9 hz0 (by omega) (by omega)).mono ?_
  rintro e w10 ⟨rfl, R_x, hw10⟩
  have F_10 := hw10.below F_9 F_9.size (fun y hy => Nat.le_trans G_x (x_9.ge y hy))
  have a_10 := a_9.wrote hw10 (fun hn => apart_of (L_a_x hn) x_9.ge)
  clear a_9
  have rp_10 := rp_9.wrote hw10 (apart_of L_rp_x x_9.ge)
  clear rp_9
  have rq_10 := rq_9.wrote hw10 (apart_of L_rq_x x_9.ge)
  clear rq_9
  have Xr_10 := Xr_9.wroteA hw10 (fun a ha => Nat.ne_of_gt (Nat.lt_of_lt_of_le M_Xr_x (x_9.ge a ha)))
  clear Xr_9
  have x_10 := R_x
  clear R_x x_9
  have gp_10 := gp_9.wrote hw10 (apart_symm (apart_of L_x_gp gp_9.ge))
  clear gp_9
  have gq_10 := gq_9.wrote hw10 (apart_symm (apart_of L_x_gq gq_9.ge))
  clear gq_9
  have Xg_10 := Xg_9.wroteA hw10 (fun a ha => Nat.ne_of_lt (N_x_Xg a ha))
  clear Xg_9
  clear x_10
  have lt_Xg := Xg_10.lt
  have r_Xg0 := Xg_10.cell 0
  have r_Xg1 := Xg_10.cell 1
  have r_Xg2 := Xg_10.cell 2
  have r_Xg3 := Xg_10.cell 3
  have r_Xg4 := Xg_10.cell 4
  have r_Xg5 := Xg_10.cell 5
  have r_Xg6 := Xg_10.cell 6
  simp only [List.getElem?_toArray, List.getElem?_cons_zero, List.getElem?_cons_succ] at r_Xg0 r_Xg1 r_Xg2 r_Xg3 r_Xg4 r_Xg5 r_Xg6
  have lt_Xr := Xr_10.lt
  have r_Xr0 := Xr_10.cell 0
  have r_Xr1 := Xr_10.cell 1
  have r_Xr2 := Xr_10.cell 2
  have r_Xr3 := Xr_10.cell 3
  have r_Xr4 := Xr_10.cell 4
  have r_Xr5 := Xr_10.cell 5
  have r_Xr6 := Xr_10.cell 6
  simp only [List.getElem?_toArray, List.getElem?_cons_zero, List.getElem?_cons_succ] at r_Xr0 r_Xr1 r_Xr2 r_Xr3 r_Xr4 r_Xr5 r_Xr6
  go_wp2_with fail
  refine (eqState_same A_g A_r rn c_g c_r B_g B_r rm d_g d_r ri rt rh re ru _ _ _ gp_10.sl gq_10.sl rp_10.sl rq_10.sl hrnm hrmm).mono ?_
  rintro e w11 ⟨rfl, b11⟩
  have a_11 := a_10.below b11
  clear a_10
  have rp_11 := rp_10.below b11
  clear rp_10
  have rq_11 := rq_10.below b11
  clear rq_10
  have Xr_11 := Xr_10.below b11
  clear Xr_10
  have gp_11 := gp_10.below b11
  clear gp_10
  have gq_11 := gq_10.below b11
  clear gq_10
  have Xg_11 := Xg_10.below b11
  clear Xg_10
  have F_11 := bthen F_10 b11
  clear lt_Xg r_Xg0 r_Xg1 r_Xg2 r_Xg3 r_Xg4 r_Xg5 r_Xg6
  clear lt_Xr r_Xr0 r_Xr1 r_Xr2 r_Xr3 r_Xr4 r_Xr5 r_Xr6
  have lt_Xg := Xg_11.lt
  have r_Xg0 := Xg_11.cell 0
  have r_Xg1 := Xg_11.cell 1
  have r_Xg2 := Xg_11.cell 2
  have r_Xg3 := Xg_11.cell 3
  have r_Xg4 := Xg_11.cell 4
  have r_Xg5 := Xg_11.cell 5
  have r_Xg6 := Xg_11.cell 6
  simp only [List.getElem?_toArray, List.getElem?_cons_zero, List.getElem?_cons_succ] at r_Xg0 r_Xg1 r_Xg2 r_Xg3 r_Xg4 r_Xg5 r_Xg6
  go_wp2_with fail
  refine (markState_any _ A_g rn c_g B_g rm d_g ri rt rh re ru _ _ 1 _ gp_11 gq_11 HAP_g hrn2 hrm2 (by omega) (by omega)).mono ?_
  rintro e w12 ⟨rfl, R_gp, R_gq, hw12⟩
  have F_12 := hw12.below F_11 F_11.size (fun y hy => Nat.le_trans G_gp (gp_11.ge y hy)) (fun y hy => Nat.le_trans G_gq (gq_11.ge y hy))
  have a_12 := a_11.wr2 hw12 (fun hn => apart_of (L_a_gp hn) gp_11.ge) (fun hn => apart_of (L_a_gq hn) gq_11.ge)
  clear a_11
  have rp_12 := rp_11.wr2 hw12 (apart_of L_rp_gp gp_11.ge) (apart_of L_rp_gq gq_11.ge)
  clear rp_11
  have rq_12 := rq_11.wr2 hw12 (apart_of L_rq_gp gp_11.ge) (apart_of L_rq_gq gq_11.ge)
  clear rq_11
  have Xr_12 := Xr_11.wr2 hw12 (fun a ha => Nat.ne_of_gt (Nat.lt_of_lt_of_le M_Xr_gp (gp_11.ge a ha))) (fun a ha => Nat.ne_of_gt (Nat.lt_of_lt_of_le M_Xr_gq (gq_11.ge a ha)))
  clear Xr_11
  have gp_12 := R_gp
  clear R_gp gp_11
  have gq_12 := R_gq
  clear R_gq gq_11
  have Xg_12 := Xg_11.wr2 hw12 (fun a ha => Nat.ne_of_lt (N_gp_Xg a ha)) (fun a ha => Nat.ne_of_lt (N_gq_Xg a ha))
  clear Xg_11
  clear hw12
  clear lt_Xg r_Xg0 r_Xg1 r_Xg2 r_Xg3 r_Xg4 r_Xg5 r_Xg6
  have lt_Xg := Xg_12.lt
  have r_Xg0 := Xg_12.cell 0
  have r_Xg1 := Xg_12.cell 1
  have r_Xg2 := Xg_12.cell 2
  have r_Xg3 := Xg_12.cell 3
  have r_Xg4 := Xg_12.cell 4
  have r_Xg5 := Xg_12.cell 5
  have r_Xg6 := Xg_12.cell 6
  simp only [List.getElem?_toArray, List.getElem?_cons_zero, List.getElem?_cons_succ] at r_Xg0 r_Xg1 r_Xg2 r_Xg3 r_Xg4 r_Xg5 r_Xg6
  go_wp2_with fail
  refine (heldState_any A_g rn c_g B_g rm d_g ri rt rh re ru 1 _ gp_12.sl gq_12.sl hrn2 hrm2 (by omega) (by omega)).mono ?_
  rintro e w13 ⟨rfl, b13⟩
  have a_13 := a_12.below b13
  clear a_12
  have rp_13 := rp_12.below b13
  clear rp_12
  have rq_13 := rq_12.below b13
  clear rq_12
  have Xr_13 := Xr_12.below b13
  clear Xr_12
  have gp_13 := gp_12.below b13
  clear gp_12
  have gq_13 := gq_12.below b13
  clear gq_12
  have Xg_13 := Xg_12.below b13
  clear Xg_12
  have F_13 := bthen F_12 b13
  clear lt_Xg r_Xg0 r_Xg1 r_Xg2 r_Xg3 r_Xg4 r_Xg5 r_Xg6
  go_wp2_with fail
  refine (toInt64S_any A0 n0 cap0 zs0 _ a_13 hz0).mono ?_
  rintro e w14 ⟨A_y, c_y, rfl, R_y, b14⟩
  have M_Xr_y := Xr_13.lt
  have M_Xg_y := Xg_13.lt
  have L_a_y := fun hn => a_13.lt hn
  have L_rp_y := rp_13.lt
  have L_rq_y := rq_13.lt
  have L_gp_y := gp_13.lt
  have L_gq_y := gq_13.lt
  have G_y : w.heap.size ≤ w13.heap.size := F_13.size
  have a_14 := a_13.below b14
  clear a_13
  have rp_14 := rp_13.below b14
  clear rp_13
  have rq_14 := rq_13.below b14
  clear rq_13
  have Xr_14 := Xr_13.below b14
  clear Xr_13
  have gp_14 := gp_13.below b14
  clear gp_13
  have gq_14 := gq_13.below b14
  clear gq_13
  have Xg_14 := Xg_13.below b14
  clear Xg_13
  have F_14 := bthen F_13 b14
  have y_14 := R_y
  clear R_y
  go_wp2_with fail
  refine (numbersState_r A_y n0 c_y zs0 w14 y_14.sl hz0 y_14.cap_le.1 y_14.cap_le.2 y_14.lt HV.out).mono ?_
  rintro e w15 ⟨A_h, c_h, B_h, d_h, rfl, R_hp, R_hq, HAP_h, b15⟩
  have M_Xr_hp := Xr_14.lt
  have M_Xg_hp := Xg_14.lt
  have M_Xr_hq := Xr_14.lt
  have M_Xg_hq := Xg_14.lt
  have L_a_hp := fun hn => a_14.lt hn
  have L_rp_hp := rp_14.lt
  have L_rq_hp := rq_14.lt
  have L_gp_hp := gp_14.lt
  have L_gq_hp := gq_14.lt
  have L_y_hp := y_14.lt
  have G_hp : w.heap.size ≤ w14.heap.size := F_14.size
  have L_a_hq := fun hn => a_14.lt hn
  have L_rp_hq := rp_14.lt
  have L_rq_hq := rq_14.lt
  have L_gp_hq := gp_14.lt
  have L_gq_hq := gq_14.lt
  have L_y_hq := y_14.lt
  have G_hq : w.heap.size ≤ w14.heap.size := F_14.size
  have a_15 := a_14.below b15
  clear a_14
  have rp_15 := rp_14.below b15
  clear rp_14
  have rq_15 := rq_14.below b15
  clear rq_14
  have Xr_15 := Xr_14.below b15
  clear Xr_14
  have gp_15 := gp_14.below b15
  clear gp_14
  have gq_15 := gq_14.below b15
  clear gq_14
  have Xg_15 := Xg_14.below b15
  clear Xg_14
  have y_15 := y_14.below b15
  clear y_14
  have F_15 := bthen F_14 b15
  have hp_15 := R_hp
  clear R_hp
  have hq_15 := R_hq
  clear R_hq
  clear y_15
  have lt_Xr := Xr_15.lt
  have r_Xr0 := Xr_15.cell 0
  have r_Xr1 := Xr_15.cell 1
  have r_Xr2 := Xr_15.cell 2
  have r_Xr3 := Xr_15.cell 3
  have r_Xr4 := Xr_15.cell 4
  have r_Xr5 := Xr_15.cell 5
  have r_Xr6 := Xr_15.cell 6
  simp only [List.getElem?_toArray, List.getElem?_cons_zero, List.getElem?_cons_succ] at r_Xr0 r_Xr1 r_Xr2 r_Xr3 r_Xr4 r_Xr5 r_Xr6
  have N_rp_Xh := rp_15.lt
  have N_rq_Xh := rq_15.lt
  have N_gp_Xh := gp_15.lt
  have N_gq_Xh := gq_15.lt
  have N_hp_Xh := hp_15.lt
  have N_hq_Xh := hq_15.lt
  go_wp2_with fail
  refine calls_named ?_
  rintro w16 hw16
  have Xh_15 : Blk w16 w15.heap.size 34 #[.int .i64 ri, .int .i64 rt, .slice A_h rn c_h, .slice B_h rm d_h, .int .i64 rh, .int .i64 re, .int .i64 ru] := by rw [hw16]; exact (Blk.new _ _ _)
  have b16 : Below w15.heap.size w15 w16 := by rw [hw16]; (repeat' (first | (with_reducible exact Below.refl _ _) | (with_reducible assumption) | (with_reducible refine Below.alloc ?_ ?_ _) | (with_reducible refine Below.drew ?_) | (with_reducible refine Below.setCell ?_ ?_ _) | (with_reducible refine bstep (by assumption) ?_ ?_) | (with_reducible exact Nat.le_refl _) | omega | (simp [*]; done) | (simp [*]; omega)))
  clear hw16
  have a_16 := a_15.below b16
  clear a_15
  have rp_16 := rp_15.below b16
  clear rp_15
  have rq_16 := rq_15.below b16
  clear rq_15
  have Xr_16 := Xr_15.below b16
  clear Xr_15
  have gp_16 := gp_15.below b16
  clear gp_15
  have gq_16 := gq_15.below b16
  clear gq_15
  have Xg_16 := Xg_15.below b16
  clear Xg_15
  have hp_16 := hp_15.below b16
  clear hp_15
  have hq_16 := hq_15.below b16
  clear hq_15
  have F_16 := bthen F_15 b16
  have Xh_16 := Xh_15
  clear lt_Xr r_Xr0 r_Xr1 r_Xr2 r_Xr3 r_Xr4 r_Xr5 r_Xr6
  have lt_Xr := Xr_16.lt
  have r_Xr0 := Xr_16.cell 0
  have r_Xr1 := Xr_16.cell 1
  have r_Xr2 := Xr_16.cell 2
  have r_Xr3 := Xr_16.cell 3
  have r_Xr4 := Xr_16.cell 4
  have r_Xr5 := Xr_16.cell 5
  have r_Xr6 := Xr_16.cell 6
  simp only [List.getElem?_toArray, List.getElem?_cons_zero, List.getElem?_cons_succ] at r_Xr0 r_Xr1 r_Xr2 r_Xr3 r_Xr4 r_Xr5 r_Xr6
  refine (eqState_same A_h A_r rn c_h c_r B_h B_r rm d_h d_r ri rt rh re ru _ _ _ hp_16.sl hq_16.sl rp_16.sl rq_16.sl hrnm hrmm).mono ?_
  rintro e w17 ⟨rfl, b17⟩
  have a_17 := a_16.below b17
  clear a_16
  have rp_17 := rp_16.below b17
  clear rp_16
  have rq_17 := rq_16.below b17
  clear rq_16
  have Xr_17 := Xr_16.below b17
  clear Xr_16
  have gp_17 := gp_16.below b17
  clear gp_16
  have gq_17 := gq_16.below b17
  clear gq_16
  have Xg_17 := Xg_16.below b17
  clear Xg_16
  have hp_17 := hp_16.below b17
  clear hp_16
  have hq_17 := hq_16.below b17
  clear hq_16
  have Xh_17 := Xh_16.below b17
  clear Xh_16
  have F_17 := bthen F_16 b17
  clear lt_Xr r_Xr0 r_Xr1 r_Xr2 r_Xr3 r_Xr4 r_Xr5 r_Xr6
  have lt_Xg := Xg_17.lt
  have r_Xg0 := Xg_17.cell 0
  have r_Xg1 := Xg_17.cell 1
  have r_Xg2 := Xg_17.cell 2
  have r_Xg3 := Xg_17.cell 3
  have r_Xg4 := Xg_17.cell 4
  have r_Xg5 := Xg_17.cell 5
  have r_Xg6 := Xg_17.cell 6
  simp only [List.getElem?_toArray, List.getElem?_cons_zero, List.getElem?_cons_succ] at r_Xg0 r_Xg1 r_Xg2 r_Xg3 r_Xg4 r_Xg5 r_Xg6
  go_wp2_with fail
  refine (heldState_any A_g rn c_g B_g rm d_g ri rt rh re ru 1 _ gp_17.sl gq_17.sl hrn2 hrm2 (by omega) (by omega)).mono ?_
  rintro e w18 ⟨rfl, b18⟩
  have a_18 := a_17.below b18
  clear a_17
  have rp_18 := rp_17.below b18
  clear rp_17
  have rq_18 := rq_17.below b18
  clear rq_17
  have Xr_18 := Xr_17.below b18
  clear Xr_17
  have gp_18 := gp_17.below b18
  clear gp_17
  have gq_18 := gq_17.below b18
  clear gq_17
  have Xg_18 := Xg_17.below b18
  clear Xg_17
  have hp_18 := hp_17.below b18
  clear hp_17
  have hq_18 := hq_17.below b18
  clear hq_17
  have Xh_18 := Xh_17.below b18
  clear Xh_17
  have F_18 := bthen F_17 b18
  clear lt_Xg r_Xg0 r_Xg1 r_Xg2 r_Xg3 r_Xg4 r_Xg5 r_Xg6
  go_wp2
  go_ret
  exact ⟨rfl, bstep F_18 B0 B0.size⟩
end Go.Proofs.Ytodkcanhlpgpgaa

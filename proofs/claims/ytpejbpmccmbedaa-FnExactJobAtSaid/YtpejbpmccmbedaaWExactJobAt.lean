/- The walk of the law FnExactJobAt. -/
import Derived.Test.YtpejbpmccmbedaaJ5
import Derived.Test.YtpejbpmccmbedaaSJob
import Derived.Test.YtpejbpmccmbedaaNm
namespace Go.Proofs.Ytpejbpmccmbedaa
set_option linter.unusedSimpArgs false
set_option linter.unusedVariables false
attribute [local go_sem] n_lt2 n_lt3 n_lt4 n_le2 n_le3
open Go.RowKit
attribute [local go_sem] Ext.cell Ext.frozen

set_option maxHeartbeats 2000000 in
theorem law_ExactJobAt (A0 : Option Addr) (n0 cap0 : Nat) (zs0 : List Int) (key : Int) (w : World) (hS0 : Sl w 5 A0 n0 zs0) (hn0 : n0 ≤ cap0) (hc0 : cap0 ≤ maxLen) :
    Calls Try.prog 8 #[.slice A0 n0 cap0, .int .i64 key] w fun e' w' => e' = .returned (.bool true) ∧ Below w.heap.size w w' := by
  have hm0 : n0 ≤ maxLen := Nat.le_trans hn0 hc0
  obtain ⟨l0, hl0, rfl⟩ := JB_of n0 zs0 hS0.len
  have a_0 := hS0
  clear hS0
  by_cases hz0 : n0 ≤ 1048576
  rotate_left
  · have hh0 : 1048576 < n0 := by omega
    clear hz0
    go_enter Try.func8, Try.ntmps8
    go_wp2_with fail
    refine (szJobS_no _ _ _ _ _ (by omega) (by omega) (by omega) (Nat.le_trans hn0 hc0)).mono ?_
    rintro e w' ⟨rfl, rfl⟩
    go_wp2
    go_ret
    exact ⟨rfl, Below.refl _ _⟩
  go_enter Try.func8, Try.ntmps8
  go_wp2_with fail
  have B0 : Below w.heap.size w w := Below.refl _ _
  refine (szJobS_yes _ _ _ _ _ (by omega) (by omega)).mono ?_
  rintro e w' ⟨rfl, rfl⟩
  obtain ⟨x0, x1, x2, x3, x4, q, hva⟩ : ∃ x0 x1 x2 x3 x4 q, jobAtR l0 key = (⟨x0, x1, x2, x3, x4⟩, q) := ⟨_, _, _, _, _, _, rfl⟩
  have heq := eqL_self [x0, x1, x2, x3, x4]
  have he0 := eqL_self (JB l0)
  go_wp2_with fail
  refine (toJobS_any A0 n0 cap0 (JB l0) _ a_0 hz0).mono ?_
  rintro e w1 ⟨A_t, c_t, rfl, R_t, b1⟩
  have L_a_t := fun hn => a_0.lt hn
  have G_t : w.heap.size ≤ w.heap.size := Nat.le_refl _
  have a_1 := a_0.below b1
  clear a_0
  have F_1 := b1
  have t_1 := R_t
  clear R_t
  have e1 := specJobAt_any A_t n0 c_t l0 key w1 t_1.sl hl0 hm0
  rw [hva] at e1
  go_wp2_with fail
  refine (e1).mono ?_
  rintro e w2 ⟨rfl, b2⟩
  have a_2 := a_1.below b2
  clear a_1
  have t_2 := t_1.below b2
  clear t_1
  have F_2 := bthen F_1 b2
  go_wp2_with fail
  refine calls_named ?_
  rintro w3 hw3
  have y_2 : Blk w3 w2.heap.size 46 #[.int .i64 x0, .int .i64 x1, .int .i64 x2, .int .i64 x3, .int .i64 x4] := by rw [hw3]; exact (Blk.new _ _ _)
  have b3 : Below w2.heap.size w2 w3 := by rw [hw3]; (repeat' (first | (with_reducible exact Below.refl _ _) | (with_reducible assumption) | (with_reducible refine Below.alloc ?_ ?_ _) | (with_reducible refine Below.drew ?_) | (with_reducible refine Below.setCell ?_ ?_ _) | (with_reducible refine bstep (by assumption) ?_ ?_) | (with_reducible exact Nat.le_refl _) | omega | (simp [*]; done) | (simp [*]; omega)))
  clear hw3
  have a_3 := a_2.below b3
  clear a_2
  have t_3 := t_2.below b3
  clear t_2
  have F_3 := bthen F_2 b3
  have y_3 := y_2
  refine (toJobS_any A0 n0 cap0 (JB l0) _ a_3 hz0).mono ?_
  rintro e w4 ⟨A_x, c_x, rfl, R_x, b4⟩
  have L_a_x := fun hn => a_3.lt hn
  have L_t_x := t_3.lt
  have G_x : w.heap.size ≤ w3.heap.size := F_3.size
  have a_4 := a_3.below b4
  clear a_3
  have t_4 := t_3.below b4
  clear t_3
  have y_4 := y_3.below b4
  clear y_3
  have F_4 := bthen F_3 b4
  have x_4 := R_x
  clear R_x
  have e2 := jobAtR_any A_x n0 c_x l0 key w4 x_4.sl hl0 hm0
  rw [hva] at e2
  go_wp2_with fail
  refine (e2).mono ?_
  rintro e w5 ⟨rfl, b5⟩
  have a_5 := a_4.below b5
  clear a_4
  have t_5 := t_4.below b5
  clear t_4
  have y_5 := y_4.below b5
  clear y_4
  have x_5 := x_4.below b5
  clear x_4
  have F_5 := bthen F_4 b5
  have lt_y := y_5.lt
  have r_y0 := y_5.cell 0
  have r_y1 := y_5.cell 1
  have r_y2 := y_5.cell 2
  have r_y3 := y_5.cell 3
  have r_y4 := y_5.cell 4
  simp only [List.getElem?_toArray, List.getElem?_cons_zero, List.getElem?_cons_succ] at r_y0 r_y1 r_y2 r_y3 r_y4
  go_wp2_with fail
  refine calls_named ?_
  rintro w6 hw6
  have g_5 : Blk w6 w5.heap.size 46 #[.int .i64 x0, .int .i64 x1, .int .i64 x2, .int .i64 x3, .int .i64 x4] := by rw [hw6]; exact (Blk.new _ _ _)
  have b6 : Below w5.heap.size w5 w6 := by rw [hw6]; (repeat' (first | (with_reducible exact Below.refl _ _) | (with_reducible assumption) | (with_reducible refine Below.alloc ?_ ?_ _) | (with_reducible refine Below.drew ?_) | (with_reducible refine Below.setCell ?_ ?_ _) | (with_reducible refine bstep (by assumption) ?_ ?_) | (with_reducible exact Nat.le_refl _) | omega | (simp [*]; done) | (simp [*]; omega)))
  clear hw6
  have a_6 := a_5.below b6
  clear a_5
  have t_6 := t_5.below b6
  clear t_5
  have y_6 := y_5.below b6
  clear y_5
  have x_6 := x_5.below b6
  clear x_5
  have F_6 := bthen F_5 b6
  have g_6 := g_5
  refine (eqJob_any x0 x1 x2 x3 x4 x0 x1 x2 x3 x4 _).mono ?_
  rintro e w7 ⟨rfl, b7⟩
  have a_7 := a_6.below b7
  clear a_6
  have t_7 := t_6.below b7
  clear t_6
  have y_7 := y_6.below b7
  clear y_6
  have x_7 := x_6.below b7
  clear x_6
  have g_7 := g_6.below b7
  clear g_6
  have F_7 := bthen F_6 b7
  go_wp2_with fail
  refine (toJobS_any A0 n0 cap0 (JB l0) _ a_7 hz0).mono ?_
  rintro e w8 ⟨A_v, c_v, rfl, R_v, b8⟩
  have L_a_v := fun hn => a_7.lt hn
  have L_t_v := t_7.lt
  have L_x_v := x_7.lt
  have G_v : w.heap.size ≤ w7.heap.size := F_7.size
  have a_8 := a_7.below b8
  clear a_7
  have t_8 := t_7.below b8
  clear t_7
  have y_8 := y_7.below b8
  clear y_7
  have x_8 := x_7.below b8
  clear x_7
  have g_8 := g_7.below b8
  clear g_7
  have F_8 := bthen F_7 b8
  have v_8 := R_v
  clear R_v
  go_wp2_with fail
  refine (eqJobS_any A_x A_v n0 n0 c_x c_v (JB l0) (JB l0) _ x_8.sl v_8.sl hm0 hm0).mono ?_
  rintro e w9 ⟨rfl, b9⟩
  have a_9 := a_8.below b9
  clear a_8
  have t_9 := t_8.below b9
  clear t_8
  have y_9 := y_8.below b9
  clear y_8
  have x_9 := x_8.below b9
  clear x_8
  have g_9 := g_8.below b9
  clear g_8
  have v_9 := v_8.below b9
  clear v_8
  have F_9 := bthen F_8 b9
  go_wp2
  go_ret
  exact ⟨rfl, bstep F_9 B0 B0.size⟩
end Go.Proofs.Ytpejbpmccmbedaa

/- The walk of the law FnExactJobAdded. -/
import Derived.Test.YthhnbplmhbbnnaaJ11
import Derived.Test.YthhnbplmhbbnnaaSJob
import Derived.Deep.RegionHeldLaw
namespace Go.Proofs.Ythhnbplmhbbnnaa
set_option linter.unusedSimpArgs false
set_option linter.unusedVariables false
attribute [local go_sem] n_lt2 n_lt3 n_lt4 n_le2 n_le3
open Go.RowKit
attribute [local go_sem] Ext.cell Ext.frozen

set_option maxHeartbeats 4000000 in
theorem law_ExactJobAdded (A0 : Option Addr) (n0 cap0 : Nat) (zs0 : List Int) (x0 x1 x2 x3 x4 : Int) (w : World) (hS0 : Sl w 5 A0 n0 zs0) (hn0 : n0 ≤ cap0) (hc0 : cap0 ≤ maxLen) :
    Calls Try.prog 8 #[.slice A0 n0 cap0, .agg #[.int .i64 x0, .int .i64 x1, .int .i64 x2, .int .i64 x3, .int .i64 x4]] w fun e' w' => e' = .returned (.bool true) ∧ Below w.heap.size w w' := by
  have hm0 : n0 ≤ maxLen := Nat.le_trans hn0 hc0
  obtain ⟨l0, hl0, rfl⟩ := JB_of n0 zs0 hS0.len
  have a_0 := hS0
  clear hS0
  by_cases hz0 : n0 ≤ 1048576
  rotate_left
  · have hh0 : 1048576 < n0 := by omega
    clear hz0
    go_enter Try.func8, Try.ntmps8
    go_wp2_with fail
    refine (szJobS_no _ _ _ _ _ (by omega) (by omega) (by omega) (Nat.le_trans hn0 hc0)).mono ?_
    rintro e w' ⟨rfl, rfl⟩
    go_wp2
    go_ret
    exact ⟨rfl, by (repeat' (first | (with_reducible exact Below.refl _ _) | (with_reducible assumption) | (with_reducible refine Below.alloc ?_ ?_ _) | (with_reducible refine Below.drew ?_) | (with_reducible refine Below.setCell ?_ ?_ _) | (with_reducible refine bstep (by assumption) ?_ ?_) | (with_reducible exact Nat.le_refl _) | omega | (simp [*]; done) | (simp [*]; omega)))⟩
  go_enter Try.func8, Try.ntmps8
  go_wp2_with fail
  obtain ⟨W0, hW0⟩ : ∃ W0 : World, W0 = (w.alloc (.cells #[.int .i64 x0, .int .i64 x1, .int .i64 x2, .int .i64 x3, .int .i64 x4] 50)) := ⟨_, rfl⟩
  rw [← hW0]
  have B0 : Below w.heap.size w W0 := by rw [hW0]; (repeat' (first | (with_reducible exact Below.refl _ _) | (with_reducible assumption) | (with_reducible refine Below.alloc ?_ ?_ _) | (with_reducible refine Below.drew ?_) | (with_reducible refine Below.setCell ?_ ?_ _) | (with_reducible refine bstep (by assumption) ?_ ?_) | (with_reducible exact Nat.le_refl _) | omega | (simp [*]; done) | (simp [*]; omega)))
  have s0x0 : w.heap.size < W0.heap.size := by rw [hW0]; simp
  have k0x0 : W0.cell? ⟨w.heap.size, 0, none⟩ = some (.int .i64 x0) := by rw [hW0]; simp [go_sem]
  have k0x1 : W0.cell? ⟨w.heap.size, 1, none⟩ = some (.int .i64 x1) := by rw [hW0]; simp [go_sem]
  have k0x2 : W0.cell? ⟨w.heap.size, 2, none⟩ = some (.int .i64 x2) := by rw [hW0]; simp [go_sem]
  have k0x3 : W0.cell? ⟨w.heap.size, 3, none⟩ = some (.int .i64 x3) := by rw [hW0]; simp [go_sem]
  have k0x4 : W0.cell? ⟨w.heap.size, 4, none⟩ = some (.int .i64 x4) := by rw [hW0]; simp [go_sem]
  replace a_0 := a_0.below B0
  clear hW0
  refine (szJobS_yes _ _ _ _ _ (by omega) (by omega)).mono ?_
  rintro e w' ⟨rfl, rfl⟩
  obtain ⟨z, q, hva⟩ : ∃ z q, addR l0 ⟨x0, x1, x2, x3, x4⟩ = (z, q) := ⟨_, _, rfl⟩
  have hzl : z.length ≤ 100 := by have := addR_len l0 ⟨x0, x1, x2, x3, x4⟩; rw [hva] at this; simp only at this; omega
  have hzm : z.length ≤ maxLen := by unfold maxLen; omega
  have hz20 : z.length ≤ 1048576 := by omega
  have heZ := eqL_self (JB z)
  have he0 := eqL_self (JB l0)
  go_wp2
  have hS0_0 : ∀ b o, b < W0.heap.size → W0.cell? ⟨b, o, none⟩ = W0.cell? ⟨b, o, none⟩ := fun b o hb => (Below.refl W0.heap.size W0).cell (p := ⟨b, o, none⟩) hb
  go_region_held_law (fun w' => ∀ b o, b < W0.heap.size → w'.cell? ⟨b, o, none⟩ = W0.cell? ⟨b, o, none⟩) (first | assumption | exact hS0_0) (first | (go_at_call 36; refine (toJobS_any A0 n0 cap0 (JB l0) _ (by exact a_0) hz0).mono ?_; rintro e w1 ⟨A_t, c_t, rfl, R_t, b1⟩; replace b1 : Below W0.heap.size W0 w1 := ⟨b1.os, b1.tape, b1.output, b1.size, b1.block⟩; have F_1 : Below W0.heap.size W0 w1 := b1; have hS1 : ∀ b o, b < W0.heap.size → w1.cell? ⟨b, o, none⟩ = W0.cell? ⟨b, o, none⟩ := fun b o hb => F_1.cell (p := ⟨b, o, none⟩) hb) | (go_at_call 39; refine (toJob_any x0 x1 x2 x3 x4 _).mono ?_; rintro e w2 ⟨rfl, b2⟩; have F_2 : Below W0.heap.size W0 w2 := bthen F_1 b2; have hS2 : ∀ b o, b < W0.heap.size → w2.cell? ⟨b, o, none⟩ = W0.cell? ⟨b, o, none⟩ := fun b o hb => F_2.cell (p := ⟨b, o, none⟩) hb) | (go_at_call 38; have e1 := addedRS_any A_t n0 c_t l0 x0 x1 x2 x3 x4 w2 (R_t.below b2).sl hl0 hm0 R_t.nil_of; rw [hva] at e1; refine (e1).mono ?_; rintro e w3 ⟨A_r, c_r, rfl, R_r, b3⟩; have F_3 : Below W0.heap.size W0 w3 := bthen F_2 b3; have hS3 : ∀ b o, b < W0.heap.size → w3.cell? ⟨b, o, none⟩ = W0.cell? ⟨b, o, none⟩ := fun b o hb => F_3.cell (p := ⟨b, o, none⟩) hb))
  clear hS0_0 hS1 hS2 hS3
  have L_a_t := fun hn => a_0.lt hn
  have G_t : W0.heap.size ≤ W0.heap.size := Nat.le_refl _
  have a_1 := a_0.below b1
  clear a_0
  have t_1 := R_t
  clear R_t
  obtain ⟨hcb, hfb, _⟩ := bcell F_1
  have a_2 := a_1.below b2
  clear a_1
  have t_2 := t_1.below b2
  clear t_1
  clear hcb hfb
  obtain ⟨hcb, hfb, _⟩ := bcell F_2
  have L_a_r := fun hn => a_2.lt hn
  have L_t_r := t_2.lt
  have G_r : W0.heap.size ≤ w2.heap.size := F_2.size
  have a_3 := a_2.below b3
  clear a_2
  have t_3 := t_2.below b3
  clear t_2
  have r_3 := R_r
  clear R_r
  clear hcb hfb
  obtain ⟨hcb, hfb, _⟩ := bcell F_3
  go_wp2_with fail
  refine (toJobS_any A0 n0 cap0 (JB l0) _ a_3 hz0).mono ?_
  rintro e w4 ⟨A_x, c_x, rfl, R_x, b4⟩
  have L_a_x := fun hn => a_3.lt hn
  have L_t_x := t_3.lt
  have L_r_x := r_3.lt
  have G_x : W0.heap.size ≤ w3.heap.size := F_3.size
  have a_4 := a_3.below b4
  clear a_3
  have t_4 := t_3.below b4
  clear t_3
  have r_4 := r_3.below b4
  clear r_3
  have F_4 := bthen F_3 b4
  have x_4 := R_x
  clear R_x
  clear hcb hfb
  obtain ⟨hcb, hfb, _⟩ := bcell F_4
  go_wp2_with fail
  refine (toJob_any x0 x1 x2 x3 x4 _).mono ?_
  rintro e w5 ⟨rfl, b5⟩
  have a_5 := a_4.below b5
  clear a_4
  have t_5 := t_4.below b5
  clear t_4
  have r_5 := r_4.below b5
  clear r_4
  have x_5 := x_4.below b5
  clear x_4
  have F_5 := bthen F_4 b5
  clear hcb hfb
  obtain ⟨hcb, hfb, _⟩ := bcell F_5
  have e2 := addedRI_any A_x n0 c_x l0 x0 x1 x2 x3 x4 w5 x_5.sl hl0 hm0 x_5.nil_of
  rw [hva] at e2
  go_wp2_with fail
  refine (e2).mono ?_
  rintro e w6 ⟨A_g, c_g, rfl, R_g, b6⟩
  have L_a_g := fun hn => a_5.lt hn
  have L_t_g := t_5.lt
  have L_r_g := r_5.lt
  have L_x_g := x_5.lt
  have G_g : W0.heap.size ≤ w5.heap.size := F_5.size
  have a_6 := a_5.below b6
  clear a_5
  have t_6 := t_5.below b6
  clear t_5
  have r_6 := r_5.below b6
  clear r_5
  have x_6 := x_5.below b6
  clear x_5
  have F_6 := bthen F_5 b6
  have g_6 := R_g
  clear R_g
  clear hcb hfb
  obtain ⟨hcb, hfb, _⟩ := bcell F_6
  go_wp2_with fail
  refine (eqJobS_any A_g A_r z.length z.length c_g c_r (JB z) (JB z) _ g_6.sl r_6.sl hzm hzm).mono ?_
  rintro e w7 ⟨rfl, b7⟩
  have a_7 := a_6.below b7
  clear a_6
  have t_7 := t_6.below b7
  clear t_6
  have r_7 := r_6.below b7
  clear r_6
  have x_7 := x_6.below b7
  clear x_6
  have g_7 := g_6.below b7
  clear g_6
  have F_7 := bthen F_6 b7
  clear hcb hfb
  obtain ⟨hcb, hfb, _⟩ := bcell F_7
  go_wp2_with fail
  refine (toJobS_any A0 n0 cap0 (JB l0) _ a_7 hz0).mono ?_
  rintro e w8 ⟨A_v, c_v, rfl, R_v, b8⟩
  have L_a_v := fun hn => a_7.lt hn
  have L_t_v := t_7.lt
  have L_r_v := r_7.lt
  have L_x_v := x_7.lt
  have L_g_v := g_7.lt
  have G_v : W0.heap.size ≤ w7.heap.size := F_7.size
  have a_8 := a_7.below b8
  clear a_7
  have t_8 := t_7.below b8
  clear t_7
  have r_8 := r_7.below b8
  clear r_7
  have x_8 := x_7.below b8
  clear x_7
  have g_8 := g_7.below b8
  clear g_7
  have F_8 := bthen F_7 b8
  have v_8 := R_v
  clear R_v
  clear hcb hfb
  obtain ⟨hcb, hfb, _⟩ := bcell F_8
  go_wp2_with fail
  refine (eqJobS_any A_x A_v n0 n0 c_x c_v (JB l0) (JB l0) _ x_8.sl v_8.sl hm0 hm0).mono ?_
  rintro e w9 ⟨rfl, b9⟩
  have a_9 := a_8.below b9
  clear a_8
  have t_9 := t_8.below b9
  clear t_8
  have r_9 := r_8.below b9
  clear r_8
  have x_9 := x_8.below b9
  clear x_8
  have g_9 := g_8.below b9
  clear g_8
  have v_9 := v_8.below b9
  clear v_8
  have F_9 := bthen F_8 b9
  clear hcb hfb
  obtain ⟨hcb, hfb, _⟩ := bcell F_9
  go_wp2_with fail
  refine (markJobS_any _ A_x n0 c_x _ 1 _ x_9 hz0 (by omega) (by omega)).mono ?_
  rintro e w10 ⟨rfl, R_x, hw10⟩
  have F_10 := hw10.below F_9 F_9.size (fun y hy => Nat.le_trans G_x (x_9.ge y hy))
  have a_10 := a_9.wrote hw10 (fun hn => apart_of (L_a_x hn) x_9.ge)
  clear a_9
  have t_10 := t_9.wrote hw10 (apart_of L_t_x x_9.ge)
  clear t_9
  have r_10 := r_9.wrote hw10 (apart_of L_r_x x_9.ge)
  clear r_9
  have x_10 := R_x
  clear R_x x_9
  have g_10 := g_9.wrote hw10 (apart_symm (apart_of L_x_g g_9.ge))
  clear g_9
  have v_10 := v_9.wrote hw10 (apart_symm (apart_of L_x_v v_9.ge))
  clear v_9
  clear hcb hfb
  obtain ⟨hcb, hfb, _⟩ := bcell F_10
  go_wp2_with fail
  refine (eqJobS_any A_g A_r z.length z.length c_g c_r (JB z) (JB z) _ g_10.sl r_10.sl hzm hzm).mono ?_
  rintro e w11 ⟨rfl, b11⟩
  have a_11 := a_10.below b11
  clear a_10
  have t_11 := t_10.below b11
  clear t_10
  have r_11 := r_10.below b11
  clear r_10
  have x_11 := x_10.below b11
  clear x_10
  have g_11 := g_10.below b11
  clear g_10
  have v_11 := v_10.below b11
  clear v_10
  have F_11 := bthen F_10 b11
  clear hcb hfb
  obtain ⟨hcb, hfb, _⟩ := bcell F_11
  go_wp2_with fail
  refine (markJobS_any _ A_g z.length c_g _ 1 _ g_11 hz20 (by omega) (by omega)).mono ?_
  rintro e w12 ⟨rfl, R_g, hw12⟩
  have F_12 := hw12.below F_11 F_11.size (fun y hy => Nat.le_trans G_g (g_11.ge y hy))
  have a_12 := a_11.wrote hw12 (fun hn => apart_of (L_a_g hn) g_11.ge)
  clear a_11
  have t_12 := t_11.wrote hw12 (apart_of L_t_g g_11.ge)
  clear t_11
  have r_12 := r_11.wrote hw12 (apart_of L_r_g g_11.ge)
  clear r_11
  have x_12 := x_11.wrote hw12 (apart_of L_x_g g_11.ge)
  clear x_11
  have g_12 := R_g
  clear R_g g_11
  have v_12 := v_11.wrote hw12 (apart_symm (apart_of L_g_v v_11.ge))
  clear v_11
  clear hcb hfb
  obtain ⟨hcb, hfb, _⟩ := bcell F_12
  go_wp2_with fail
  refine (heldJobS_any A_g z.length c_g 1 _ g_12.sl hz20 (by omega) (by omega)).mono ?_
  rintro e w' ⟨rfl, rfl⟩
  go_wp2
  have hS0_12 : ∀ b o, b < W0.heap.size → w12.cell? ⟨b, o, none⟩ = W0.cell? ⟨b, o, none⟩ := fun b o hb => F_12.cell (p := ⟨b, o, none⟩) hb
  go_region_held_law (fun w' => ∀ b o, b < W0.heap.size → w'.cell? ⟨b, o, none⟩ = W0.cell? ⟨b, o, none⟩) (first | assumption | exact hS0_12) (first | (go_at_call 36; refine (toJobS_any A0 n0 cap0 (JB l0) _ (by exact a_12) hz0).mono ?_; rintro e w13 ⟨A_a2, c_a2, rfl, R_a2, b13⟩; replace b13 : Below w12.heap.size w12 w13 := ⟨b13.os, b13.tape, b13.output, b13.size, b13.block⟩; have F_13 : Below W0.heap.size W0 w13 := bthen F_12 b13; have hS13 : ∀ b o, b < W0.heap.size → w13.cell? ⟨b, o, none⟩ = W0.cell? ⟨b, o, none⟩ := fun b o hb => F_13.cell (p := ⟨b, o, none⟩) hb) | (go_at_call 39; refine (toJob_any x0 x1 x2 x3 x4 _).mono ?_; rintro e w14 ⟨rfl, b14⟩; have F_14 : Below W0.heap.size W0 w14 := bthen F_13 b14; have hS14 : ∀ b o, b < W0.heap.size → w14.cell? ⟨b, o, none⟩ = W0.cell? ⟨b, o, none⟩ := fun b o hb => F_14.cell (p := ⟨b, o, none⟩) hb) | (go_at_call 40; have e3 := addedRI_any A_a2 n0 c_a2 l0 x0 x1 x2 x3 x4 w14 (R_a2.below b14).sl hl0 hm0 R_a2.nil_of; rw [hva] at e3; refine (e3).mono ?_; rintro e w15 ⟨A_h, c_h, rfl, R_h, b15⟩; have F_15 : Below W0.heap.size W0 w15 := bthen F_14 b15; have hS15 : ∀ b o, b < W0.heap.size → w15.cell? ⟨b, o, none⟩ = W0.cell? ⟨b, o, none⟩ := fun b o hb => F_15.cell (p := ⟨b, o, none⟩) hb))
  clear hS0_12 hS13 hS14 hS15
  have L_a_a2 := fun hn => a_12.lt hn
  have L_t_a2 := t_12.lt
  have L_r_a2 := r_12.lt
  have L_x_a2 := x_12.lt
  have L_g_a2 := g_12.lt
  have L_v_a2 := v_12.lt
  have G_a2 : W0.heap.size ≤ w12.heap.size := F_12.size
  have a_13 := a_12.below b13
  clear a_12
  have t_13 := t_12.below b13
  clear t_12
  have r_13 := r_12.below b13
  clear r_12
  have x_13 := x_12.below b13
  clear x_12
  have g_13 := g_12.below b13
  clear g_12
  have v_13 := v_12.below b13
  clear v_12
  have a2_13 := R_a2
  clear R_a2
  clear hcb hfb
  obtain ⟨hcb, hfb, _⟩ := bcell F_13
  have a_14 := a_13.below b14
  clear a_13
  have t_14 := t_13.below b14
  clear t_13
  have r_14 := r_13.below b14
  clear r_13
  have x_14 := x_13.below b14
  clear x_13
  have g_14 := g_13.below b14
  clear g_13
  have v_14 := v_13.below b14
  clear v_13
  have a2_14 := a2_13.below b14
  clear a2_13
  clear hcb hfb
  obtain ⟨hcb, hfb, _⟩ := bcell F_14
  have L_a_h := fun hn => a_14.lt hn
  have L_t_h := t_14.lt
  have L_r_h := r_14.lt
  have L_x_h := x_14.lt
  have L_g_h := g_14.lt
  have L_v_h := v_14.lt
  have L_a2_h := a2_14.lt
  have G_h : W0.heap.size ≤ w14.heap.size := F_14.size
  have a_15 := a_14.below b15
  clear a_14
  have t_15 := t_14.below b15
  clear t_14
  have r_15 := r_14.below b15
  clear r_14
  have x_15 := x_14.below b15
  clear x_14
  have g_15 := g_14.below b15
  clear g_14
  have v_15 := v_14.below b15
  clear v_14
  have a2_15 := a2_14.below b15
  clear a2_14
  have h_15 := R_h
  clear R_h
  clear hcb hfb
  obtain ⟨hcb, hfb, _⟩ := bcell F_15
  go_wp2_with fail
  refine (eqJobS_any A_h A_r z.length z.length c_h c_r (JB z) (JB z) _ h_15.sl r_15.sl hzm hzm).mono ?_
  rintro e w16 ⟨rfl, b16⟩
  have a_16 := a_15.below b16
  clear a_15
  have t_16 := t_15.below b16
  clear t_15
  have r_16 := r_15.below b16
  clear r_15
  have x_16 := x_15.below b16
  clear x_15
  have g_16 := g_15.below b16
  clear g_15
  have v_16 := v_15.below b16
  clear v_15
  have a2_16 := a2_15.below b16
  clear a2_15
  have h_16 := h_15.below b16
  clear h_15
  have F_16 := bthen F_15 b16
  clear hcb hfb
  obtain ⟨hcb, hfb, _⟩ := bcell F_16
  go_wp2_with fail
  refine (heldJobS_any A_g z.length c_g 1 _ g_16.sl hz20 (by omega) (by omega)).mono ?_
  rintro e w' ⟨rfl, rfl⟩
  go_wp2
  go_ret
  exact ⟨rfl, bstep F_16 B0 B0.size⟩
end Go.Proofs.Ythhnbplmhbbnnaa

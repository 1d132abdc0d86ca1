/- The walk of the law FnExactSendOf. -/
import Derived.Test.YtbcpcddmekoaeaaCl1
import Derived.Test.YtbcpcddmekoaeaaClM
import Derived.Test.YtbcpcddmekoaeaaSd3
import Derived.Deep.RegionHeldLaw
namespace Go.Proofs.Ytbcpcddmekoaeaa
set_option linter.unusedSimpArgs false
set_option linter.unusedVariables false
attribute [local go_sem] n_lt2 n_lt3 n_lt4 n_le2 n_le3
open Go.RowKit
attribute [local go_sem] Ext.cell Ext.frozen

set_option maxRecDepth 100000 in
set_option maxHeartbeats 8000000 in
theorem law_ExactSendOf (U0 : Option Addr) (n0 c0 : Nat) (V0 : Option Addr) (m0 d0 : Nat) (i0x0 t0x0 : Int) (zp0 zq0 : List Int) (w : World) (hP0 : Sl w 7 U0 n0 zp0) (hn0 : n0 ≤ c0) (hc0 : c0 ≤ maxLen) (hQ0 : Sl w 4 V0 m0 zq0) (hm0 : m0 ≤ d0) (hd0 : d0 ≤ maxLen) :
    Calls Try.prog 11 #[.agg #[.int .i64 i0x0, .slice U0 n0 c0, .slice V0 m0 d0, .int .i64 t0x0]] w fun e' w' => e' = .returned (.bool true) ∧ Below w.heap.size w w' := by
  have hnm0 : n0 ≤ maxLen := Nat.le_trans hn0 hc0
  have hmm0 : m0 ≤ maxLen := Nat.le_trans hm0 hd0
  obtain ⟨pl0, hpl0, rfl⟩ := WT_of n0 zp0 hP0.len
  obtain ⟨ql0, hql0, rfl⟩ := GT_of m0 zq0 hQ0.len
  have p0_0 := hP0
  have q0_0 := hQ0
  clear hP0 hQ0
  by_cases hz0x0 : n0 ≤ 1048576
  rotate_left
  · have hh : 1048576 < n0 := by omega
    clear hz0x0
    go_enter Try.func11, Try.ntmps11
    go_wp2_with fail
    obtain ⟨W0, hW0⟩ : ∃ W0 : World, W0 = (w.alloc (.cells #[.int .i64 i0x0, .slice U0 n0 c0, .slice V0 m0 d0, .int .i64 t0x0] 25)) := ⟨_, rfl⟩
    rw [← hW0]
    have B0 : Below w.heap.size w W0 := by rw [hW0]; (repeat' (first | (with_reducible exact Below.refl _ _) | (with_reducible assumption) | (with_reducible refine Below.alloc ?_ ?_ _) | (with_reducible refine Below.drew ?_) | (with_reducible refine Below.setCell ?_ ?_ _) | (with_reducible refine bstep (by assumption) ?_ ?_) | (with_reducible exact Nat.le_refl _) | omega | (simp [*]; done) | (simp [*]; omega)))
    have s0x0 : w.heap.size < W0.heap.size := by rw [hW0]; simp
    have k0x0 : W0.cell? ⟨w.heap.size, 0, none⟩ = some (.int .i64 i0x0) := by rw [hW0]; simp [go_sem]
    have k0x1 : W0.cell? ⟨w.heap.size, 1, none⟩ = some (.slice U0 n0 c0) := by rw [hW0]; simp [go_sem]
    have k0x2 : W0.cell? ⟨w.heap.size, 2, none⟩ = some (.slice V0 m0 d0) := by rw [hW0]; simp [go_sem]
    have k0x3 : W0.cell? ⟨w.heap.size, 3, none⟩ = some (.int .i64 t0x0) := by rw [hW0]; simp [go_sem]
    replace p0_0 := p0_0.below B0
    replace q0_0 := q0_0.below B0
    clear hW0
    refine (szClient_no1 U0 n0 c0 V0 m0 d0 i0x0 t0x0 (1048576) _ (by omega) (by omega) (by omega) hnm0).mono ?_
    rintro e w1 ⟨rfl, b1⟩
    have p0_1 := p0_0.below b1
    clear p0_0
    have q0_1 := q0_0.below b1
    clear q0_0
    have F_1 := b1
    obtain ⟨hcb, hfb, _⟩ := bcell F_1
    go_wp2
    go_ret
    exact ⟨rfl, bstep F_1 B0 B0.size⟩
  by_cases hz0x1 : n0 + m0 ≤ 1048576
  rotate_left
  · have hh : 1048576 < n0 + m0 := by omega
    clear hz0x1
    go_enter Try.func11, Try.ntmps11
    go_wp2_with fail
    obtain ⟨W0, hW0⟩ : ∃ W0 : World, W0 = (w.alloc (.cells #[.int .i64 i0x0, .slice U0 n0 c0, .slice V0 m0 d0, .int .i64 t0x0] 25)) := ⟨_, rfl⟩
    rw [← hW0]
    have B0 : Below w.heap.size w W0 := by rw [hW0]; (repeat' (first | (with_reducible exact Below.refl _ _) | (with_reducible assumption) | (with_reducible refine Below.alloc ?_ ?_ _) | (with_reducible refine Below.drew ?_) | (with_reducible refine Below.setCell ?_ ?_ _) | (with_reducible refine bstep (by assumption) ?_ ?_) | (with_reducible exact Nat.le_refl _) | omega | (simp [*]; done) | (simp [*]; omega)))
    have s0x0 : w.heap.size < W0.heap.size := by rw [hW0]; simp
    have k0x0 : W0.cell? ⟨w.heap.size, 0, none⟩ = some (.int .i64 i0x0) := by rw [hW0]; simp [go_sem]
    have k0x1 : W0.cell? ⟨w.heap.size, 1, none⟩ = some (.slice U0 n0 c0) := by rw [hW0]; simp [go_sem]
    have k0x2 : W0.cell? ⟨w.heap.size, 2, none⟩ = some (.slice V0 m0 d0) := by rw [hW0]; simp [go_sem]
    have k0x3 : W0.cell? ⟨w.heap.size, 3, none⟩ = some (.int .i64 t0x0) := by rw [hW0]; simp [go_sem]
    replace p0_0 := p0_0.below B0
    replace q0_0 := q0_0.below B0
    clear hW0
    refine (szClient_no2 U0 n0 c0 V0 m0 d0 i0x0 t0x0 (1048576) _ (by omega) (by omega) (by omega) hmm0).mono ?_
    rintro e w1 ⟨rfl, b1⟩
    have p0_1 := p0_0.below b1
    clear p0_0
    have q0_1 := q0_0.below b1
    clear q0_0
    have F_1 := b1
    obtain ⟨hcb, hfb, _⟩ := bcell F_1
    go_wp2
    go_ret
    exact ⟨rfl, bstep F_1 B0 B0.size⟩
  go_enter Try.func11, Try.ntmps11
  go_wp2_with fail
  obtain ⟨W0, hW0⟩ : ∃ W0 : World, W0 = (w.alloc (.cells #[.int .i64 i0x0, .slice U0 n0 c0, .slice V0 m0 d0, .int .i64 t0x0] 25)) := ⟨_, rfl⟩
  rw [← hW0]
  have B0 : Below w.heap.size w W0 := by rw [hW0]; (repeat' (first | (with_reducible exact Below.refl _ _) | (with_reducible assumption) | (with_reducible refine Below.alloc ?_ ?_ _) | (with_reducible refine Below.drew ?_) | (with_reducible refine Below.setCell ?_ ?_ _) | (with_reducible refine bstep (by assumption) ?_ ?_) | (with_reducible exact Nat.le_refl _) | omega | (simp [*]; done) | (simp [*]; omega)))
  have s0x0 : w.heap.size < W0.heap.size := by rw [hW0]; simp
  have k0x0 : W0.cell? ⟨w.heap.size, 0, none⟩ = some (.int .i64 i0x0) := by rw [hW0]; simp [go_sem]
  have k0x1 : W0.cell? ⟨w.heap.size, 1, none⟩ = some (.slice U0 n0 c0) := by rw [hW0]; simp [go_sem]
  have k0x2 : W0.cell? ⟨w.heap.size, 2, none⟩ = some (.slice V0 m0 d0) := by rw [hW0]; simp [go_sem]
  have k0x3 : W0.cell? ⟨w.heap.size, 3, none⟩ = some (.int .i64 t0x0) := by rw [hW0]; simp [go_sem]
  replace p0_0 := p0_0.below B0
  replace q0_0 := q0_0.below B0
  clear hW0
  refine (szClient_yes U0 n0 c0 V0 m0 d0 i0x0 t0x0 (1048576) _ (by omega) (by omega)).mono ?_
  rintro e w1 ⟨rfl, b1⟩
  have p0_1 := p0_0.below b1
  clear p0_0
  have q0_1 := q0_0.below b1
  clear q0_0
  have F_1 := b1
  obtain ⟨hcb, hfb, _⟩ := bcell F_1
  have lf0 : ¬ ((1048576 : Int) - (n0 : Int) - m0 < 0) := by omega
  obtain ⟨ms, hms⟩ : ∃ ms, sendL i0x0 t0x0 pl0 ql0 = ms := ⟨_, rfl⟩
  have hz9 : mzL ms ≤ 1000 := by rw [← hms]; exact sendL_mz _ _ _ _
  obtain ⟨nz, hnz⟩ : ∃ nz, mzL ms = nz := ⟨_, rfl⟩
  have hz8 : nz ≤ 1000 := by rw [← hnz]; exact hz9
  have HMS := Lib.hid hms
  have HNZ := Lib.hid hnz
  clear hms hnz
  have hnz0 : n0 ≤ 1048576 := by omega
  have hmz0 : m0 ≤ 1048576 := by omega
  go_wp2_with fail
  refine (toClient_any U0 n0 c0 V0 m0 d0 i0x0 t0x0 _ _ _ (by exact p0_1) (by exact q0_1) (by omega) (by omega)).mono ?_
  rintro e w2 ⟨A_t, c_t, B_t, d_t, rfl, R_tp, R_tq, HAP_t, b2⟩
  have L_p0_tp := fun hn => p0_1.lt hn
  have L_q0_tp := fun hn => q0_1.lt hn
  have G_tp : W0.heap.size ≤ w1.heap.size := F_1.size
  have L_p0_tq := fun hn => p0_1.lt hn
  have L_q0_tq := fun hn => q0_1.lt hn
  have G_tq : W0.heap.size ≤ w1.heap.size := F_1.size
  have p0_2 := p0_1.below b2
  clear p0_1
  have q0_2 := q0_1.below b2
  clear q0_1
  have F_2 := bthen F_1 b2
  have tp_2 := R_tp
  clear R_tp
  have tq_2 := R_tq
  clear R_tq
  clear hcb hfb
  obtain ⟨hcb, hfb, _⟩ := bcell F_2
  have e1 := specSendOf_any A_t n0 c_t B_t m0 d_t i0x0 t0x0 pl0 ql0 w2 tp_2.sl tq_2.sl hpl0 hql0 hnm0 hmm0
  rw [HMS.out] at e1
  go_wp2_with fail
  have L_p0_r := fun hn => p0_2.lt hn
  have L_q0_r := fun hn => q0_2.lt hn
  have L_tp_r := tp_2.lt
  have L_tq_r := tq_2.lt
  refine (e1).mono ?_
  rintro e w3 ⟨A_r, c_r, rfl, -, R_r, b3⟩
  have G_r : W0.heap.size ≤ w2.heap.size := F_2.size
  have p0_3 := p0_2.below b3
  clear p0_2
  have q0_3 := q0_2.below b3
  clear q0_2
  have tp_3 := tp_2.below b3
  clear tp_2
  have tq_3 := tq_2.below b3
  clear tq_2
  have F_3 := bthen F_2 b3
  clear hcb hfb
  obtain ⟨hcb, hfb, _⟩ := bcell F_3
  have r_3 := R_r
  clear R_r
  clear e1
  clear tp_3
  clear tq_3
  go_wp2_with fail
  refine (toClient_any U0 n0 c0 V0 m0 d0 i0x0 t0x0 _ _ _ (by exact p0_3) (by exact q0_3) (by omega) (by omega)).mono ?_
  rintro e w4 ⟨A_x, c_x, B_x, d_x, rfl, R_xp, R_xq, HAP_x, b4⟩
  have L_r_xp := r_3.le
  have L_r_xq := r_3.le
  have L_p0_xp := fun hn => p0_3.lt hn
  have L_q0_xp := fun hn => q0_3.lt hn
  have G_xp : W0.heap.size ≤ w3.heap.size := F_3.size
  have L_p0_xq := fun hn => p0_3.lt hn
  have L_q0_xq := fun hn => q0_3.lt hn
  have G_xq : W0.heap.size ≤ w3.heap.size := F_3.size
  have p0_4 := p0_3.below b4
  clear p0_3
  have q0_4 := q0_3.below b4
  clear q0_3
  have r_4 := r_3.below b4
  clear r_3
  have F_4 := bthen F_3 b4
  have xp_4 := R_xp
  clear R_xp
  have xq_4 := R_xq
  clear R_xq
  clear hcb hfb
  obtain ⟨hcb, hfb, _⟩ := bcell F_4
  have N_xp_Xx := xp_4.lt
  have N_xq_Xx := xq_4.lt
  go_wp2_with fail
  refine calls_named ?_
  rintro w5 hw5
  have Xx_4 : Blk w5 w4.heap.size 31 #[.int .i64 i0x0, .slice A_x n0 c_x, .slice B_x m0 d_x, .int .i64 t0x0] := by rw [hw5]; exact (Blk.new _ _ _)
  have b5 : Below w4.heap.size w4 w5 := by rw [hw5]; (repeat' (first | (with_reducible exact Below.refl _ _) | (with_reducible assumption) | (with_reducible refine Below.alloc ?_ ?_ _) | (with_reducible refine Below.drew ?_) | (with_reducible refine Below.setCell ?_ ?_ _) | (with_reducible refine bstep (by assumption) ?_ ?_) | (with_reducible exact Nat.le_refl _) | omega | (simp [*]; done) | (simp [*]; omega)))
  clear hw5
  have p0_5 := p0_4.below b5
  clear p0_4
  have q0_5 := q0_4.below b5
  clear q0_4
  have r_5 := r_4.below b5
  clear r_4
  have xp_5 := xp_4.below b5
  clear xp_4
  have xq_5 := xq_4.below b5
  clear xq_4
  have F_5 := bthen F_4 b5
  clear hcb hfb
  obtain ⟨hcb, hfb, _⟩ := bcell F_5
  have Xx_5 := Xx_4
  have lt_Xx := Xx_5.lt
  have r_Xx0 := Xx_5.cell 0
  have r_Xx1 := Xx_5.cell 1
  have r_Xx2 := Xx_5.cell 2
  have r_Xx3 := Xx_5.cell 3
  simp only [List.getElem?_toArray, List.getElem?_cons_zero, List.getElem?_cons_succ] at r_Xx0 r_Xx1 r_Xx2 r_Xx3
  have e2 := sendOf_any A_x n0 c_x B_x m0 d_x i0x0 t0x0 pl0 ql0 w5 xp_5.sl xq_5.sl hpl0 hql0 hnm0 hmm0
  rw [HMS.out] at e2
  have L_p0_g := fun hn => p0_5.lt hn
  have L_q0_g := fun hn => q0_5.lt hn
  have L_r_g := r_5.le
  have L_xp_g := xp_5.lt
  have L_xq_g := xq_5.lt
  refine (e2).mono ?_
  rintro e w6 ⟨A_g, c_g, rfl, -, R_g, b6⟩
  have G_g : W0.heap.size ≤ w5.heap.size := F_5.size
  have p0_6 := p0_5.below b6
  clear p0_5
  have q0_6 := q0_5.below b6
  clear q0_5
  have r_6 := r_5.below b6
  clear r_5
  have xp_6 := xp_5.below b6
  clear xp_5
  have xq_6 := xq_5.below b6
  clear xq_5
  have Xx_6 := Xx_5.below b6
  clear Xx_5
  have F_6 := bthen F_5 b6
  clear hcb hfb
  obtain ⟨hcb, hfb, _⟩ := bcell F_6
  have g_6 := R_g
  clear R_g
  clear e2
  clear lt_Xx r_Xx0 r_Xx1 r_Xx2 r_Xx3
  have hl9 : w5.heap.size ≤ w6.heap.size := b6.size
  go_wp2_with fail
  refine (eqMsgS_same A_g A_r c_g c_r _ _ _ _ ms _ g_6 r_6 hz9).mono ?_
  rintro e w7 ⟨rfl, b7⟩
  have p0_7 := p0_6.below b7
  clear p0_6
  have q0_7 := q0_6.below b7
  clear q0_6
  have r_7 := r_6.below b7
  clear r_6
  have xp_7 := xp_6.below b7
  clear xp_6
  have xq_7 := xq_6.below b7
  clear xq_6
  have Xx_7 := Xx_6.below b7
  clear Xx_6
  have g_7 := g_6.below b7
  clear g_6
  have F_7 := bthen F_6 b7
  clear hcb hfb
  obtain ⟨hcb, hfb, _⟩ := bcell F_7
  have lt_Xx := Xx_7.lt
  have r_Xx0 := Xx_7.cell 0
  have r_Xx1 := Xx_7.cell 1
  have r_Xx2 := Xx_7.cell 2
  have r_Xx3 := Xx_7.cell 3
  simp only [List.getElem?_toArray, List.getElem?_cons_zero, List.getElem?_cons_succ] at r_Xx0 r_Xx1 r_Xx2 r_Xx3
  have lp0 : w.heap.size < w7.heap.size := Nat.lt_of_lt_of_le s0x0 F_7.size
  go_wp2_with fail
  have hS0_7 : ∀ b o, b < w7.heap.size → w7.cell? ⟨b, o, none⟩ = w7.cell? ⟨b, o, none⟩ := fun b o hb => rfl
  go_region_held_law (fun w' => ∀ b o, b < w7.heap.size → w'.cell? ⟨b, o, none⟩ = w7.cell? ⟨b, o, none⟩) (first | assumption | exact hS0_7) (first | (go_at_call 16; refine (toClient_any U0 n0 c0 V0 m0 d0 i0x0 t0x0 _ _ _ (by exact p0_7) (by exact q0_7) (by omega) (by omega)).mono ?_; rintro e w8 ⟨A_v, c_v, B_v, d_v, rfl, R_vp, R_vq, HAP_v, b8⟩; replace b8 : Below w7.heap.size w7 w8 := ⟨b8.os, b8.tape, b8.output, b8.size, b8.block⟩; have F_8 : Below W0.heap.size W0 w8 := bthen F_7 b8; have E_8 : Below w7.heap.size w7 w8 := b8; have hS8 : ∀ b o, b < w7.heap.size → w8.cell? ⟨b, o, none⟩ = w7.cell? ⟨b, o, none⟩ := fun b o hb => E_8.cell (p := ⟨b, o, none⟩) hb) | (go_at_call 18; refine (eqClient_same A_x A_v n0 c_x c_v B_x B_v m0 d_x d_v i0x0 t0x0 _ _ _ (xp_7.below b8).sl (xq_7.below b8).sl R_vp.sl R_vq.sl hnm0 hmm0).mono ?_; rintro e w9 ⟨rfl, b9⟩; have F_9 : Below W0.heap.size W0 w9 := bthen F_8 b9; have E_9 : Below w7.heap.size w7 w9 := bthen E_8 b9; have hS9 : ∀ b o, b < w7.heap.size → w9.cell? ⟨b, o, none⟩ = w7.cell? ⟨b, o, none⟩ := fun b o hb => E_9.cell (p := ⟨b, o, none⟩) hb))
  clear hS0_7 hS8 E_8 hS9 E_9
  rename (∀ b o, b < w7.heap.size → w9.cell? ⟨b, o, none⟩ = w7.cell? ⟨b, o, none⟩) => hHX
  clear hHX
  clear lt_Xx r_Xx0 r_Xx1 r_Xx2 r_Xx3
  clear lp0
  have L_r_vp := r_7.le
  have L_g_vp := g_7.le
  have L_r_vq := r_7.le
  have L_g_vq := g_7.le
  have M_Xx_vp := Xx_7.lt
  have M_Xx_vq := Xx_7.lt
  have L_p0_vp := fun hn => p0_7.lt hn
  have L_q0_vp := fun hn => q0_7.lt hn
  have L_xp_vp := xp_7.lt
  have L_xq_vp := xq_7.lt
  have G_vp : W0.heap.size ≤ w7.heap.size := F_7.size
  have L_p0_vq := fun hn => p0_7.lt hn
  have L_q0_vq := fun hn => q0_7.lt hn
  have L_xp_vq := xp_7.lt
  have L_xq_vq := xq_7.lt
  have G_vq : W0.heap.size ≤ w7.heap.size := F_7.size
  have p0_8 := p0_7.below b8
  clear p0_7
  have q0_8 := q0_7.below b8
  clear q0_7
  have r_8 := r_7.below b8
  clear r_7
  have xp_8 := xp_7.below b8
  clear xp_7
  have xq_8 := xq_7.below b8
  clear xq_7
  have Xx_8 := Xx_7.below b8
  clear Xx_7
  have g_8 := g_7.below b8
  clear g_7
  have vp_8 := R_vp
  clear R_vp
  have vq_8 := R_vq
  clear R_vq
  clear hcb hfb
  obtain ⟨hcb, hfb, _⟩ := bcell F_8
  have p0_9 := p0_8.below b9
  clear p0_8
  have q0_9 := q0_8.below b9
  clear q0_8
  have r_9 := r_8.below b9
  clear r_8
  have xp_9 := xp_8.below b9
  clear xp_8
  have xq_9 := xq_8.below b9
  clear xq_8
  have Xx_9 := Xx_8.below b9
  clear Xx_8
  have g_9 := g_8.below b9
  clear g_8
  have vp_9 := vp_8.below b9
  clear vp_8
  have vq_9 := vq_8.below b9
  clear vq_8
  clear hcb hfb
  obtain ⟨hcb, hfb, _⟩ := bcell F_9
  clear vp_9
  clear vq_9
  have lt_Xx := Xx_9.lt
  have r_Xx0 := Xx_9.cell 0
  have r_Xx1 := Xx_9.cell 1
  have r_Xx2 := Xx_9.cell 2
  have r_Xx3 := Xx_9.cell 3
  simp only [List.getElem?_toArray, List.getElem?_cons_zero, List.getElem?_cons_succ] at r_Xx0 r_Xx1 r_Xx2 r_Xx3
  go_wp2_with fail
  refine (markClient_any _ A_x n0 c_x B_x m0 d_x i0x0 t0x0 _ _ 1 _ xp_9 xq_9 HAP_x hnz0 hmz0 (by omega) (by omega)).mono ?_
  rintro e w10 ⟨rfl, R_xp, R_xq, hw10⟩
  have F_10 := hw10.below F_9 F_9.size (fun y hy => Nat.le_trans G_xp (xp_9.ge y hy)) (fun y hy => Nat.le_trans G_xq (xq_9.ge y hy))
  clear Xx_9 lt_Xx r_Xx0 r_Xx1 r_Xx2 r_Xx3
  have p0_10 := p0_9.wr2 hw10 (fun hn => apart_of (L_p0_xp hn) xp_9.ge) (fun hn => apart_of (L_p0_xq hn) xq_9.ge)
  clear p0_9
  have q0_10 := q0_9.wr2 hw10 (fun hn => apart_of (L_q0_xp hn) xp_9.ge) (fun hn => apart_of (L_q0_xq hn) xq_9.ge)
  clear q0_9
  have r_10 := r_9.wr2 hw10 (fun a ha => .inl (Nat.le_trans L_r_xp (xp_9.ge a ha))) (fun a ha => .inl (Nat.le_trans L_r_xq (xq_9.ge a ha)))
  clear r_9
  have xp_10 := R_xp
  clear R_xp xp_9
  have xq_10 := R_xq
  clear R_xq xq_9
  have g_10 := g_9.wr2 hw10 (fun a ha => .inr (L_xp_g a ha)) (fun a ha => .inr (L_xq_g a ha))
  clear g_9
  clear hw10
  clear hcb hfb
  obtain ⟨hcb, hfb, _⟩ := bcell F_10
  clear xp_10
  clear xq_10
  go_wp2_with fail
  refine (eqMsgS_same A_g A_r c_g c_r _ _ _ _ ms _ g_10 r_10 hz9).mono ?_
  rintro e w11 ⟨rfl, b11⟩
  have p0_11 := p0_10.below b11
  clear p0_10
  have q0_11 := q0_10.below b11
  clear q0_10
  have r_11 := r_10.below b11
  clear r_10
  have g_11 := g_10.below b11
  clear g_10
  have F_11 := bthen F_10 b11
  clear hcb hfb
  obtain ⟨hcb, hfb, _⟩ := bcell F_11
  go_wp2_with fail
  have sz9 : w5.heap.size ≤ w11.heap.size := Nat.le_trans hl9 g_11.le
  refine (markMsgS_any A_g c_g _ _ ms 1 _ g_11 sz9 hz9 (by omega) (by omega)).mono ?_
  rw [HNZ.out]
  rintro e w12 ⟨rfl, R_g, b12⟩
  have F_12 := F_11.trans (b12.mono G_g)
  have p0_12 := p0_11.bel b12 L_p0_g
  clear p0_11
  have q0_12 := q0_11.bel b12 L_q0_g
  clear q0_11
  have r_12 := r_11.bel b12 L_r_g
  clear r_11
  have g_12 := R_g
  clear g_11
  clear R_g
  clear hcb hfb
  obtain ⟨hcb, hfb, _⟩ := bcell F_12
  go_wp2_with fail
  refine (heldMsgS_any A_g c_g _ _ ms 1 _ g_12 hz9 (by omega) (by omega)).mono ?_
  rw [HNZ.out]
  rintro e w' ⟨rfl, rfl⟩
  go_wp2_with fail
  refine (toClient_any U0 n0 c0 V0 m0 d0 i0x0 t0x0 _ _ _ (by exact p0_12) (by exact q0_12) (by omega) (by omega)).mono ?_
  rintro e w13 ⟨A_y, c_y, B_y, d_y, rfl, R_yp, R_yq, HAP_y, b13⟩
  have L_r_yp := r_12.le
  have L_g_yp := g_12.le
  have L_r_yq := r_12.le
  have L_g_yq := g_12.le
  have L_p0_yp := fun hn => p0_12.lt hn
  have L_q0_yp := fun hn => q0_12.lt hn
  have G_yp : W0.heap.size ≤ w12.heap.size := F_12.size
  have L_p0_yq := fun hn => p0_12.lt hn
  have L_q0_yq := fun hn => q0_12.lt hn
  have G_yq : W0.heap.size ≤ w12.heap.size := F_12.size
  have p0_13 := p0_12.below b13
  clear p0_12
  have q0_13 := q0_12.below b13
  clear q0_12
  have r_13 := r_12.below b13
  clear r_12
  have g_13 := g_12.below b13
  clear g_12
  have F_13 := bthen F_12 b13
  have yp_13 := R_yp
  clear R_yp
  have yq_13 := R_yq
  clear R_yq
  clear hcb hfb
  obtain ⟨hcb, hfb, _⟩ := bcell F_13
  have e3 := sendOf_any A_y n0 c_y B_y m0 d_y i0x0 t0x0 pl0 ql0 w13 yp_13.sl yq_13.sl hpl0 hql0 hnm0 hmm0
  rw [HMS.out] at e3
  go_wp2_with fail
  have L_p0_h := fun hn => p0_13.lt hn
  have L_q0_h := fun hn => q0_13.lt hn
  have L_r_h := r_13.le
  have L_g_h := g_13.le
  have L_yp_h := yp_13.lt
  have L_yq_h := yq_13.lt
  refine (e3).mono ?_
  rintro e w14 ⟨A_h, c_h, rfl, -, R_h, b14⟩
  have G_h : W0.heap.size ≤ w13.heap.size := F_13.size
  have p0_14 := p0_13.below b14
  clear p0_13
  have q0_14 := q0_13.below b14
  clear q0_13
  have r_14 := r_13.below b14
  clear r_13
  have g_14 := g_13.below b14
  clear g_13
  have yp_14 := yp_13.below b14
  clear yp_13
  have yq_14 := yq_13.below b14
  clear yq_13
  have F_14 := bthen F_13 b14
  clear hcb hfb
  obtain ⟨hcb, hfb, _⟩ := bcell F_14
  have h_14 := R_h
  clear R_h
  clear e3
  clear yp_14
  clear yq_14
  go_wp2_with fail
  refine (eqMsgS_same A_h A_r c_h c_r _ _ _ _ ms _ h_14 r_14 hz9).mono ?_
  rintro e w15 ⟨rfl, b15⟩
  have p0_15 := p0_14.below b15
  clear p0_14
  have q0_15 := q0_14.below b15
  clear q0_14
  have r_15 := r_14.below b15
  clear r_14
  have g_15 := g_14.below b15
  clear g_14
  have h_15 := h_14.below b15
  clear h_14
  have F_15 := bthen F_14 b15
  clear hcb hfb
  obtain ⟨hcb, hfb, _⟩ := bcell F_15
  go_wp2_with fail
  refine (heldMsgS_any A_g c_g _ _ ms 1 _ g_15 hz9 (by omega) (by omega)).mono ?_
  rw [HNZ.out]
  rintro e w' ⟨rfl, rfl⟩
  go_wp2
  go_ret
  exact ⟨rfl, bstep F_15 B0 B0.size⟩
end Go.Proofs.Ytbcpcddmekoaeaa

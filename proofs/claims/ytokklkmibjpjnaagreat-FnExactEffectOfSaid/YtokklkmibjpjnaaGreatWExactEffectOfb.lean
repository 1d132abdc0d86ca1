/- The walk of the law FnExactEffectOf. -/
import Derived.Test.YtokklkmibjpjnaaGreatBd6
import Derived.Deep.RegionHeldLaw
namespace Go.Proofs.YtokklkmibjpjnaaGreat
set_option linter.unusedSimpArgs false
set_option linter.unusedVariables false
attribute [local go_sem] n_lt2 n_lt3 n_lt4 n_le2 n_le3
open Go.RowKit
attribute [local go_sem] Ext.cell Ext.frozen

set_option maxRecDepth 100000 in
set_option maxHeartbeats 6000000 in
theorem law_ExactEffectOf (U0 : Option Addr) (n0 c0 : Nat) (V0 : Option Addr) (m0 d0 : Nat) (i0x0 t0x0 l0x0 l1x0 l2x0 : Int) (zp0 zq0 : List Int) (ex et ec es ek ea eb eg eh : Int) (w : World) (hP0 : Sl w 2 U0 n0 zp0) (hn0 : n0 ≤ c0) (hc0 : c0 ≤ maxLen) (hQ0 : Sl w 5 V0 m0 zq0) (hm0 : m0 ≤ d0) (hd0 : d0 ≤ maxLen) :
    Calls Tryz.prog 4 #[.agg #[.int .i64 i0x0, .int .i64 t0x0, .slice U0 n0 c0, .slice V0 m0 d0, .int .i64 l0x0, .int .i64 l1x0, .int .i64 l2x0], .agg #[.int .i64 ex, .int .i64 et, .int .i64 ec, .int .i64 es, .int .i64 ek, .int .i64 ea, .int .i64 eb, .int .i64 eg, .int .i64 eh]] w fun e' w' => e' = .returned (.bool true) ∧ Below w.heap.size w w' := by
  have hnm0 : n0 ≤ maxLen := Nat.le_trans hn0 hc0
  have hmm0 : m0 ≤ maxLen := Nat.le_trans hm0 hd0
  obtain ⟨pl0, hpl0, rfl⟩ := PR_of n0 zp0 hP0.len
  obtain ⟨ql0, hql0, rfl⟩ := JB_of m0 zq0 hQ0.len
  have p0_0 := hP0
  have q0_0 := hQ0
  clear hP0 hQ0
  by_cases hz0x0 : n0 ≤ 1048576
  rotate_left
  · have hh : 1048576 < n0 := by omega
    clear hz0x0
    go_enter Tryz.func4, Tryz.ntmps4
    go_wp2_with fail
    obtain ⟨W0, hW0⟩ : ∃ W0 : World, W0 = ((w.alloc (.cells #[.int .i64 i0x0, .int .i64 t0x0, .slice U0 n0 c0, .slice V0 m0 d0, .int .i64 l0x0, .int .i64 l1x0, .int .i64 l2x0] 27)).alloc (.cells #[.int .i64 ex, .int .i64 et, .int .i64 ec, .int .i64 es, .int .i64 ek, .int .i64 ea, .int .i64 eb, .int .i64 eg, .int .i64 eh] 31)) := ⟨_, rfl⟩
    rw [← hW0]
    have B0 : Below w.heap.size w W0 := by rw [hW0]; (repeat' (first | (with_reducible exact Below.refl _ _) | (with_reducible assumption) | (with_reducible refine Below.alloc ?_ ?_ _) | (with_reducible refine Below.drew ?_) | (with_reducible refine Below.setCell ?_ ?_ _) | (with_reducible refine bstep (by assumption) ?_ ?_) | (with_reducible exact Nat.le_refl _) | omega | (simp [*]; done) | (simp [*]; omega)))
    have s0x0 : w.heap.size < W0.heap.size := by rw [hW0]; first | (simp; done) | (simp; omega)
    have k0x0 : W0.cell? ⟨w.heap.size, 0, none⟩ = some (.int .i64 i0x0) := by rw [hW0]; simp [go_sem]
    have k0x1 : W0.cell? ⟨w.heap.size, 1, none⟩ = some (.int .i64 t0x0) := by rw [hW0]; simp [go_sem]
    have k0x2 : W0.cell? ⟨w.heap.size, 2, none⟩ = some (.slice U0 n0 c0) := by rw [hW0]; simp [go_sem]
    have k0x3 : W0.cell? ⟨w.heap.size, 3, none⟩ = some (.slice V0 m0 d0) := by rw [hW0]; simp [go_sem]
    have k0x4 : W0.cell? ⟨w.heap.size, 4, none⟩ = some (.int .i64 l0x0) := by rw [hW0]; simp [go_sem]
    have k0x5 : W0.cell? ⟨w.heap.size, 5, none⟩ = some (.int .i64 l1x0) := by rw [hW0]; simp [go_sem]
    have k0x6 : W0.cell? ⟨w.heap.size, 6, none⟩ = some (.int .i64 l2x0) := by rw [hW0]; simp [go_sem]
    have s0x1 : w.heap.size + 1 < W0.heap.size := by rw [hW0]; first | (simp; done) | (simp; omega)
    have k1x0 : W0.cell? ⟨w.heap.size + 1, 0, none⟩ = some (.int .i64 ex) := by rw [hW0]; simp [go_sem]
    have k1x1 : W0.cell? ⟨w.heap.size + 1, 1, none⟩ = some (.int .i64 et) := by rw [hW0]; simp [go_sem]
    have k1x2 : W0.cell? ⟨w.heap.size + 1, 2, none⟩ = some (.int .i64 ec) := by rw [hW0]; simp [go_sem]
    have k1x3 : W0.cell? ⟨w.heap.size + 1, 3, none⟩ = some (.int .i64 es) := by rw [hW0]; simp [go_sem]
    have k1x4 : W0.cell? ⟨w.heap.size + 1, 4, none⟩ = some (.int .i64 ek) := by rw [hW0]; simp [go_sem]
    have k1x5 : W0.cell? ⟨w.heap.size + 1, 5, none⟩ = some (.int .i64 ea) := by rw [hW0]; simp [go_sem]
    have k1x6 : W0.cell? ⟨w.heap.size + 1, 6, none⟩ = some (.int .i64 eb) := by rw [hW0]; simp [go_sem]
    have k1x7 : W0.cell? ⟨w.heap.size + 1, 7, none⟩ = some (.int .i64 eg) := by rw [hW0]; simp [go_sem]
    have k1x8 : W0.cell? ⟨w.heap.size + 1, 8, none⟩ = some (.int .i64 eh) := by rw [hW0]; simp [go_sem]
    replace p0_0 := p0_0.below B0
    replace q0_0 := q0_0.below B0
    clear hW0
    refine (szState_no1 U0 n0 c0 V0 m0 d0 i0x0 t0x0 l0x0 l1x0 l2x0 (1048576) _ (by omega) (by omega) (by omega) hnm0).mono ?_
    rintro e w1 ⟨rfl, b1⟩
    have p0_1 := p0_0.below b1
    clear p0_0
    have q0_1 := q0_0.below b1
    clear q0_0
    have F_1 := b1
    obtain ⟨hcb, hfb, _⟩ := bcell F_1
    go_wp2
    go_ret
    exact ⟨rfl, bstep F_1 B0 B0.size⟩
  by_cases hz0x1 : n0 + m0 ≤ 1048576
  rotate_left
  · have hh : 1048576 < n0 + m0 := by omega
    clear hz0x1
    go_enter Tryz.func4, Tryz.ntmps4
    go_wp2_with fail
    obtain ⟨W0, hW0⟩ : ∃ W0 : World, W0 = ((w.alloc (.cells #[.int .i64 i0x0, .int .i64 t0x0, .slice U0 n0 c0, .slice V0 m0 d0, .int .i64 l0x0, .int .i64 l1x0, .int .i64 l2x0] 27)).alloc (.cells #[.int .i64 ex, .int .i64 et, .int .i64 ec, .int .i64 es, .int .i64 ek, .int .i64 ea, .int .i64 eb, .int .i64 eg, .int .i64 eh] 31)) := ⟨_, rfl⟩
    rw [← hW0]
    have B0 : Below w.heap.size w W0 := by rw [hW0]; (repeat' (first | (with_reducible exact Below.refl _ _) | (with_reducible assumption) | (with_reducible refine Below.alloc ?_ ?_ _) | (with_reducible refine Below.drew ?_) | (with_reducible refine Below.setCell ?_ ?_ _) | (with_reducible refine bstep (by assumption) ?_ ?_) | (with_reducible exact Nat.le_refl _) | omega | (simp [*]; done) | (simp [*]; omega)))
    have s0x0 : w.heap.size < W0.heap.size := by rw [hW0]; first | (simp; done) | (simp; omega)
    have k0x0 : W0.cell? ⟨w.heap.size, 0, none⟩ = some (.int .i64 i0x0) := by rw [hW0]; simp [go_sem]
    have k0x1 : W0.cell? ⟨w.heap.size, 1, none⟩ = some (.int .i64 t0x0) := by rw [hW0]; simp [go_sem]
    have k0x2 : W0.cell? ⟨w.heap.size, 2, none⟩ = some (.slice U0 n0 c0) := by rw [hW0]; simp [go_sem]
    have k0x3 : W0.cell? ⟨w.heap.size, 3, none⟩ = some (.slice V0 m0 d0) := by rw [hW0]; simp [go_sem]
    have k0x4 : W0.cell? ⟨w.heap.size, 4, none⟩ = some (.int .i64 l0x0) := by rw [hW0]; simp [go_sem]
    have k0x5 : W0.cell? ⟨w.heap.size, 5, none⟩ = some (.int .i64 l1x0) := by rw [hW0]; simp [go_sem]
    have k0x6 : W0.cell? ⟨w.heap.size, 6, none⟩ = some (.int .i64 l2x0) := by rw [hW0]; simp [go_sem]
    have s0x1 : w.heap.size + 1 < W0.heap.size := by rw [hW0]; first | (simp; done) | (simp; omega)
    have k1x0 : W0.cell? ⟨w.heap.size + 1, 0, none⟩ = some (.int .i64 ex) := by rw [hW0]; simp [go_sem]
    have k1x1 : W0.cell? ⟨w.heap.size + 1, 1, none⟩ = some (.int .i64 et) := by rw [hW0]; simp [go_sem]
    have k1x2 : W0.cell? ⟨w.heap.size + 1, 2, none⟩ = some (.int .i64 ec) := by rw [hW0]; simp [go_sem]
    have k1x3 : W0.cell? ⟨w.heap.size + 1, 3, none⟩ = some (.int .i64 es) := by rw [hW0]; simp [go_sem]
    have k1x4 : W0.cell? ⟨w.heap.size + 1, 4, none⟩ = some (.int .i64 ek) := by rw [hW0]; simp [go_sem]
    have k1x5 : W0.cell? ⟨w.heap.size + 1, 5, none⟩ = some (.int .i64 ea) := by rw [hW0]; simp [go_sem]
    have k1x6 : W0.cell? ⟨w.heap.size + 1, 6, none⟩ = some (.int .i64 eb) := by rw [hW0]; simp [go_sem]
    have k1x7 : W0.cell? ⟨w.heap.size + 1, 7, none⟩ = some (.int .i64 eg) := by rw [hW0]; simp [go_sem]
    have k1x8 : W0.cell? ⟨w.heap.size + 1, 8, none⟩ = some (.int .i64 eh) := by rw [hW0]; simp [go_sem]
    replace p0_0 := p0_0.below B0
    replace q0_0 := q0_0.below B0
    clear hW0
    refine (szState_no2 U0 n0 c0 V0 m0 d0 i0x0 t0x0 l0x0 l1x0 l2x0 (1048576) _ (by omega) (by omega) (by omega) hmm0).mono ?_
    rintro e w1 ⟨rfl, b1⟩
    have p0_1 := p0_0.below b1
    clear p0_0
    have q0_1 := q0_0.below b1
    clear q0_0
    have F_1 := b1
    obtain ⟨hcb, hfb, _⟩ := bcell F_1
    go_wp2
    go_ret
    exact ⟨rfl, bstep F_1 B0 B0.size⟩
  go_enter Tryz.func4, Tryz.ntmps4
  go_wp2_with fail
  obtain ⟨W0, hW0⟩ : ∃ W0 : World, W0 = ((w.alloc (.cells #[.int .i64 i0x0, .int .i64 t0x0, .slice U0 n0 c0, .slice V0 m0 d0, .int .i64 l0x0, .int .i64 l1x0, .int .i64 l2x0] 27)).alloc (.cells #[.int .i64 ex, .int .i64 et, .int .i64 ec, .int .i64 es, .int .i64 ek, .int .i64 ea, .int .i64 eb, .int .i64 eg, .int .i64 eh] 31)) := ⟨_, rfl⟩
  rw [← hW0]
  have B0 : Below w.heap.size w W0 := by rw [hW0]; (repeat' (first | (with_reducible exact Below.refl _ _) | (with_reducible assumption) | (with_reducible refine Below.alloc ?_ ?_ _) | (with_reducible refine Below.drew ?_) | (with_reducible refine Below.setCell ?_ ?_ _) | (with_reducible refine bstep (by assumption) ?_ ?_) | (with_reducible exact Nat.le_refl _) | omega | (simp [*]; done) | (simp [*]; omega)))
  have s0x0 : w.heap.size < W0.heap.size := by rw [hW0]; first | (simp; done) | (simp; omega)
  have k0x0 : W0.cell? ⟨w.heap.size, 0, none⟩ = some (.int .i64 i0x0) := by rw [hW0]; simp [go_sem]
  have k0x1 : W0.cell? ⟨w.heap.size, 1, none⟩ = some (.int .i64 t0x0) := by rw [hW0]; simp [go_sem]
  have k0x2 : W0.cell? ⟨w.heap.size, 2, none⟩ = some (.slice U0 n0 c0) := by rw [hW0]; simp [go_sem]
  have k0x3 : W0.cell? ⟨w.heap.size, 3, none⟩ = some (.slice V0 m0 d0) := by rw [hW0]; simp [go_sem]
  have k0x4 : W0.cell? ⟨w.heap.size, 4, none⟩ = some (.int .i64 l0x0) := by rw [hW0]; simp [go_sem]
  have k0x5 : W0.cell? ⟨w.heap.size, 5, none⟩ = some (.int .i64 l1x0) := by rw [hW0]; simp [go_sem]
  have k0x6 : W0.cell? ⟨w.heap.size, 6, none⟩ = some (.int .i64 l2x0) := by rw [hW0]; simp [go_sem]
  have s0x1 : w.heap.size + 1 < W0.heap.size := by rw [hW0]; first | (simp; done) | (simp; omega)
  have k1x0 : W0.cell? ⟨w.heap.size + 1, 0, none⟩ = some (.int .i64 ex) := by rw [hW0]; simp [go_sem]
  have k1x1 : W0.cell? ⟨w.heap.size + 1, 1, none⟩ = some (.int .i64 et) := by rw [hW0]; simp [go_sem]
  have k1x2 : W0.cell? ⟨w.heap.size + 1, 2, none⟩ = some (.int .i64 ec) := by rw [hW0]; simp [go_sem]
  have k1x3 : W0.cell? ⟨w.heap.size + 1, 3, none⟩ = some (.int .i64 es) := by rw [hW0]; simp [go_sem]
  have k1x4 : W0.cell? ⟨w.heap.size + 1, 4, none⟩ = some (.int .i64 ek) := by rw [hW0]; simp [go_sem]
  have k1x5 : W0.cell? ⟨w.heap.size + 1, 5, none⟩ = some (.int .i64 ea) := by rw [hW0]; simp [go_sem]
  have k1x6 : W0.cell? ⟨w.heap.size + 1, 6, none⟩ = some (.int .i64 eb) := by rw [hW0]; simp [go_sem]
  have k1x7 : W0.cell? ⟨w.heap.size + 1, 7, none⟩ = some (.int .i64 eg) := by rw [hW0]; simp [go_sem]
  have k1x8 : W0.cell? ⟨w.heap.size + 1, 8, none⟩ = some (.int .i64 eh) := by rw [hW0]; simp [go_sem]
  replace p0_0 := p0_0.below B0
  replace q0_0 := q0_0.below B0
  clear hW0
  refine (szState_yes U0 n0 c0 V0 m0 d0 i0x0 t0x0 l0x0 l1x0 l2x0 (1048576) _ (by omega) (by omega)).mono ?_
  rintro e w1 ⟨rfl, b1⟩
  have p0_1 := p0_0.below b1
  clear p0_0
  have q0_1 := q0_0.below b1
  clear q0_0
  have F_1 := b1
  obtain ⟨hcb, hfb, _⟩ := bcell F_1
  have lf0 : ¬ ((1048576 : Int) - (n0 : Int) - m0 < 0) := by omega
  obtain ⟨q, hq⟩ : ∃ q, effI i0x0 t0x0 l0x0 l1x0 l2x0 pl0 ql0 ex et ec es ek ea eb eg eh = q := ⟨_, rfl⟩
  have HQQ := Lib.hid hq
  clear hq
  have lp0 : w.heap.size < w1.heap.size := Nat.lt_of_lt_of_le s0x0 F_1.size
  have lp1 : w.heap.size + 1 < w1.heap.size := Nat.lt_of_lt_of_le s0x1 F_1.size
  go_wp2_with fail
  have hS0_1 : ∀ b o, b < w1.heap.size → w1.cell? ⟨b, o, none⟩ = w1.cell? ⟨b, o, none⟩ := fun b o hb => rfl
  go_region_held_law (fun w' => ∀ b o, b < w1.heap.size → w'.cell? ⟨b, o, none⟩ = w1.cell? ⟨b, o, none⟩) (first | assumption | exact hS0_1) (first | (go_at_call 8; refine (toState_any U0 n0 c0 V0 m0 d0 i0x0 t0x0 l0x0 l1x0 l2x0 _ _ _ (by exact p0_1) (by exact q0_1) (by omega) (by omega)).mono ?_; rintro e w2 ⟨A_t, c_t, B_t, d_t, rfl, R_tp, R_tq, HAP_t, b2⟩; replace b2 : Below w1.heap.size w1 w2 := ⟨b2.os, b2.tape, b2.output, b2.size, b2.block⟩; have F_2 : Below W0.heap.size W0 w2 := bthen F_1 b2; have E_2 : Below w1.heap.size w1 w2 := b2; have hS2 : ∀ b o, b < w1.heap.size → w2.cell? ⟨b, o, none⟩ = w1.cell? ⟨b, o, none⟩ := fun b o hb => E_2.cell (p := ⟨b, o, none⟩) hb) | (go_at_call 9; refine (toEntry_any ex et ec es ek ea eb eg eh _).mono ?_; rintro e w3 ⟨rfl, b3⟩; have F_3 : Below W0.heap.size W0 w3 := bthen F_2 b3; have E_3 : Below w1.heap.size w1 w3 := bthen E_2 b3; have hS3 : ∀ b o, b < w1.heap.size → w3.cell? ⟨b, o, none⟩ = w1.cell? ⟨b, o, none⟩ := fun b o hb => E_3.cell (p := ⟨b, o, none⟩) hb) | (go_at_call 14; refine (specEffectOf_any A_t n0 c_t B_t m0 d_t i0x0 t0x0 l0x0 l1x0 l2x0 pl0 ql0 ex et ec es ek ea eb eg eh w3 (R_tp.below b3).sl (R_tq.below b3).sl hpl0 hql0 hnm0 hmm0 (row_nil R_tp) (row_nil R_tq) q HQQ.out).mono ?_; rintro e w4 ⟨rfl, b4⟩; have F_4 : Below W0.heap.size W0 w4 := bthen F_3 b4; have E_4 : Below w1.heap.size w1 w4 := bthen E_3 b4; have hS4 : ∀ b o, b < w1.heap.size → w4.cell? ⟨b, o, none⟩ = w1.cell? ⟨b, o, none⟩ := fun b o hb => E_4.cell (p := ⟨b, o, none⟩) hb))
  clear hS0_1 hS2 E_2 hS3 E_3 hS4 E_4
  rename (∀ b o, b < w1.heap.size → w4.cell? ⟨b, o, none⟩ = w1.cell? ⟨b, o, none⟩) => hHX
  clear hHX
  clear lp0
  clear lp1
  have L_p0_tp := fun hn => p0_1.lt hn
  have L_q0_tp := fun hn => q0_1.lt hn
  have G_tp : W0.heap.size ≤ w1.heap.size := F_1.size
  have L_p0_tq := fun hn => p0_1.lt hn
  have L_q0_tq := fun hn => q0_1.lt hn
  have G_tq : W0.heap.size ≤ w1.heap.size := F_1.size
  have p0_2 := p0_1.below b2
  clear p0_1
  have q0_2 := q0_1.below b2
  clear q0_1
  have tp_2 := R_tp
  clear R_tp
  have tq_2 := R_tq
  clear R_tq
  clear hcb hfb
  obtain ⟨hcb, hfb, _⟩ := bcell F_2
  have p0_3 := p0_2.below b3
  clear p0_2
  have q0_3 := q0_2.below b3
  clear q0_2
  have tp_3 := tp_2.below b3
  clear tp_2
  have tq_3 := tq_2.below b3
  clear tq_2
  clear hcb hfb
  obtain ⟨hcb, hfb, _⟩ := bcell F_3
  have p0_4 := p0_3.below b4
  clear p0_3
  have q0_4 := q0_3.below b4
  clear q0_3
  have tp_4 := tp_3.below b4
  clear tp_3
  have tq_4 := tq_3.below b4
  clear tq_3
  clear hcb hfb
  obtain ⟨hcb, hfb, _⟩ := bcell F_4
  go_wp2_with fail
  refine (toState_any U0 n0 c0 V0 m0 d0 i0x0 t0x0 l0x0 l1x0 l2x0 _ _ _ (by exact p0_4) (by exact q0_4) (by omega) (by omega)).mono ?_
  rintro e w5 ⟨A_x, c_x, B_x, d_x, rfl, R_xp, R_xq, HAP_x, b5⟩
  have L_p0_xp := fun hn => p0_4.lt hn
  have L_q0_xp := fun hn => q0_4.lt hn
  have L_tp_xp := tp_4.lt
  have L_tq_xp := tq_4.lt
  have G_xp : W0.heap.size ≤ w4.heap.size := F_4.size
  have L_p0_xq := fun hn => p0_4.lt hn
  have L_q0_xq := fun hn => q0_4.lt hn
  have L_tp_xq := tp_4.lt
  have L_tq_xq := tq_4.lt
  have G_xq : W0.heap.size ≤ w4.heap.size := F_4.size
  have p0_5 := p0_4.below b5
  clear p0_4
  have q0_5 := q0_4.below b5
  clear q0_4
  have tp_5 := tp_4.below b5
  clear tp_4
  have tq_5 := tq_4.below b5
  clear tq_4
  have F_5 := bthen F_4 b5
  have xp_5 := R_xp
  clear R_xp
  have xq_5 := R_xq
  clear R_xq
  clear hcb hfb
  obtain ⟨hcb, hfb, _⟩ := bcell F_5
  go_wp2_with fail
  obtain ⟨w6, hw6⟩ : ∃ x : World, x = w5.alloc (.cells #[.int .i64 i0x0, .int .i64 t0x0, .slice A_x n0 c_x, .slice B_x m0 d_x, .int .i64 l0x0, .int .i64 l1x0, .int .i64 l2x0] 37) := ⟨_, rfl⟩
  rw [← hw6]
  have Xx_5 : Blk w6 w5.heap.size 37 #[.int .i64 i0x0, .int .i64 t0x0, .slice A_x n0 c_x, .slice B_x m0 d_x, .int .i64 l0x0, .int .i64 l1x0, .int .i64 l2x0] := by rw [hw6]; exact (Blk.new _ _ _)
  have b6 : Below w5.heap.size w5 w6 := by rw [hw6]; (repeat' (first | (with_reducible exact Below.refl _ _) | (with_reducible assumption) | (with_reducible refine Below.alloc ?_ ?_ _) | (with_reducible refine Below.drew ?_) | (with_reducible refine Below.setCell ?_ ?_ _) | (with_reducible refine bstep (by assumption) ?_ ?_) | (with_reducible exact Nat.le_refl _) | omega | (simp [*]; done) | (simp [*]; omega)))
  clear hw6
  have p0_6 := p0_5.below b6
  clear p0_5
  have q0_6 := q0_5.below b6
  clear q0_5
  have tp_6 := tp_5.below b6
  clear tp_5
  have tq_6 := tq_5.below b6
  clear tq_5
  have xp_6 := xp_5.below b6
  clear xp_5
  have xq_6 := xq_5.below b6
  clear xq_5
  have F_6 := bthen F_5 b6
  clear hcb hfb
  obtain ⟨hcb, hfb, _⟩ := bcell F_6
  have Xx_6 := Xx_5
  have lt_Xx := Xx_6.lt
  have r_Xx0 := Xx_6.cell 0
  have r_Xx1 := Xx_6.cell 1
  have r_Xx2 := Xx_6.cell 2
  have r_Xx3 := Xx_6.cell 3
  have r_Xx4 := Xx_6.cell 4
  have r_Xx5 := Xx_6.cell 5
  have r_Xx6 := Xx_6.cell 6
  simp only [List.getElem?_toArray, List.getElem?_cons_zero, List.getElem?_cons_succ] at r_Xx0 r_Xx1 r_Xx2 r_Xx3 r_Xx4 r_Xx5 r_Xx6
  have lp1 : w.heap.size + 1 < w6.heap.size := Nat.lt_of_lt_of_le s0x1 F_6.size
  have hS0_6 : ∀ b o, b < w6.heap.size → w6.cell? ⟨b, o, none⟩ = w6.cell? ⟨b, o, none⟩ := fun b o hb => rfl
  go_region_held_law (fun w' => ∀ b o, b < w6.heap.size → w'.cell? ⟨b, o, none⟩ = w6.cell? ⟨b, o, none⟩) (first | assumption | exact hS0_6) (first | (go_at_call 9; refine (toEntry_any ex et ec es ek ea eb eg eh _).mono ?_; rintro e w7 ⟨rfl, b7⟩; replace b7 : Below w6.heap.size w6 w7 := ⟨b7.os, b7.tape, b7.output, b7.size, b7.block⟩; have F_7 : Below W0.heap.size W0 w7 := bthen F_6 b7; have E_7 : Below w6.heap.size w6 w7 := b7; have hS7 : ∀ b o, b < w6.heap.size → w7.cell? ⟨b, o, none⟩ = w6.cell? ⟨b, o, none⟩ := fun b o hb => E_7.cell (p := ⟨b, o, none⟩) hb) | (go_at_call 15; refine (EffectOf_any A_x n0 c_x B_x m0 d_x i0x0 t0x0 l0x0 l1x0 l2x0 pl0 ql0 ex et ec es ek ea eb eg eh w7 (xp_6.below b7).sl (xq_6.below b7).sl hpl0 hql0 hnm0 hmm0 (row_nil xp_6) (row_nil xq_6) q HQQ.out).mono ?_; rintro e w8 ⟨rfl, b8⟩; have F_8 : Below W0.heap.size W0 w8 := bthen F_7 b8; have E_8 : Below w6.heap.size w6 w8 := bthen E_7 b8; have hS8 : ∀ b o, b < w6.heap.size → w8.cell? ⟨b, o, none⟩ = w6.cell? ⟨b, o, none⟩ := fun b o hb => E_8.cell (p := ⟨b, o, none⟩) hb))
  clear hS0_6 hS7 E_7 hS8 E_8
  rename (∀ b o, b < w6.heap.size → w8.cell? ⟨b, o, none⟩ = w6.cell? ⟨b, o, none⟩) => hHX
  clear hHX
  clear lt_Xx r_Xx0 r_Xx1 r_Xx2 r_Xx3 r_Xx4 r_Xx5 r_Xx6
  clear lp1
  have p0_7 := p0_6.below b7
  clear p0_6
  have q0_7 := q0_6.below b7
  clear q0_6
  have tp_7 := tp_6.below b7
  clear tp_6
  have tq_7 := tq_6.below b7
  clear tq_6
  have xp_7 := xp_6.below b7
  clear xp_6
  have xq_7 := xq_6.below b7
  clear xq_6
  have Xx_7 := Xx_6.below b7
  clear Xx_6
  clear hcb hfb
  obtain ⟨hcb, hfb, _⟩ := bcell F_7
  have p0_8 := p0_7.below b8
  clear p0_7
  have q0_8 := q0_7.below b8
  clear q0_7
  have tp_8 := tp_7.below b8
  clear tp_7
  have tq_8 := tq_7.below b8
  clear tq_7
  have xp_8 := xp_7.below b8
  clear xp_7
  have xq_8 := xq_7.below b8
  clear xq_7
  have Xx_8 := Xx_7.below b8
  clear Xx_7
  clear hcb hfb
  obtain ⟨hcb, hfb, _⟩ := bcell F_8
  have lt_Xx := Xx_8.lt
  have r_Xx0 := Xx_8.cell 0
  have r_Xx1 := Xx_8.cell 1
  have r_Xx2 := Xx_8.cell 2
  have r_Xx3 := Xx_8.cell 3
  have r_Xx4 := Xx_8.cell 4
  have r_Xx5 := Xx_8.cell 5
  have r_Xx6 := Xx_8.cell 6
  simp only [List.getElem?_toArray, List.getElem?_cons_zero, List.getElem?_cons_succ] at r_Xx0 r_Xx1 r_Xx2 r_Xx3 r_Xx4 r_Xx5 r_Xx6
  have lp0 : w.heap.size < w8.heap.size := Nat.lt_of_lt_of_le s0x0 F_8.size
  go_wp2_with fail
  have hS0_8 : ∀ b o, b < w8.heap.size → w8.cell? ⟨b, o, none⟩ = w8.cell? ⟨b, o, none⟩ := fun b o hb => rfl
  go_region_held_law (fun w' => ∀ b o, b < w8.heap.size → w'.cell? ⟨b, o, none⟩ = w8.cell? ⟨b, o, none⟩) (first | assumption | exact hS0_8) (first | (go_at_call 8; refine (toState_any U0 n0 c0 V0 m0 d0 i0x0 t0x0 l0x0 l1x0 l2x0 _ _ _ (by exact p0_8) (by exact q0_8) (by omega) (by omega)).mono ?_; rintro e w9 ⟨A_v, c_v, B_v, d_v, rfl, R_vp, R_vq, HAP_v, b9⟩; replace b9 : Below w8.heap.size w8 w9 := ⟨b9.os, b9.tape, b9.output, b9.size, b9.block⟩; have F_9 : Below W0.heap.size W0 w9 := bthen F_8 b9; have E_9 : Below w8.heap.size w8 w9 := b9; have hS9 : ∀ b o, b < w8.heap.size → w9.cell? ⟨b, o, none⟩ = w8.cell? ⟨b, o, none⟩ := fun b o hb => E_9.cell (p := ⟨b, o, none⟩) hb) | (go_at_call 11; refine (eqState_same A_x A_v n0 c_x c_v B_x B_v m0 d_x d_v i0x0 t0x0 l0x0 l1x0 l2x0 _ _ _ (xp_8.below b9).sl (xq_8.below b9).sl R_vp.sl R_vq.sl hnm0 hmm0).mono ?_; rintro e w10 ⟨rfl, b10⟩; have F_10 : Below W0.heap.size W0 w10 := bthen F_9 b10; have E_10 : Below w8.heap.size w8 w10 := bthen E_9 b10; have hS10 : ∀ b o, b < w8.heap.size → w10.cell? ⟨b, o, none⟩ = w8.cell? ⟨b, o, none⟩ := fun b o hb => E_10.cell (p := ⟨b, o, none⟩) hb))
  clear hS0_8 hS9 E_9 hS10 E_10
  rename (∀ b o, b < w8.heap.size → w10.cell? ⟨b, o, none⟩ = w8.cell? ⟨b, o, none⟩) => hHX
  clear hHX
  clear lt_Xx r_Xx0 r_Xx1 r_Xx2 r_Xx3 r_Xx4 r_Xx5 r_Xx6
  clear lp0
  have L_p0_vp := fun hn => p0_8.lt hn
  have L_q0_vp := fun hn => q0_8.lt hn
  have L_tp_vp := tp_8.lt
  have L_tq_vp := tq_8.lt
  have L_xp_vp := xp_8.lt
  have L_xq_vp := xq_8.lt
  have G_vp : W0.heap.size ≤ w8.heap.size := F_8.size
  have L_p0_vq := fun hn => p0_8.lt hn
  have L_q0_vq := fun hn => q0_8.lt hn
  have L_tp_vq := tp_8.lt
  have L_tq_vq := tq_8.lt
  have L_xp_vq := xp_8.lt
  have L_xq_vq := xq_8.lt
  have G_vq : W0.heap.size ≤ w8.heap.size := F_8.size
  have p0_9 := p0_8.below b9
  clear p0_8
  have q0_9 := q0_8.below b9
  clear q0_8
  have tp_9 := tp_8.below b9
  clear tp_8
  have tq_9 := tq_8.below b9
  clear tq_8
  have xp_9 := xp_8.below b9
  clear xp_8
  have xq_9 := xq_8.below b9
  clear xq_8
  have Xx_9 := Xx_8.below b9
  clear Xx_8
  have vp_9 := R_vp
  clear R_vp
  have vq_9 := R_vq
  clear R_vq
  clear hcb hfb
  obtain ⟨hcb, hfb, _⟩ := bcell F_9
  have p0_10 := p0_9.below b10
  clear p0_9
  have q0_10 := q0_9.below b10
  clear q0_9
  have tp_10 := tp_9.below b10
  clear tp_9
  have tq_10 := tq_9.below b10
  clear tq_9
  have xp_10 := xp_9.below b10
  clear xp_9
  have xq_10 := xq_9.below b10
  clear xq_9
  have Xx_10 := Xx_9.below b10
  clear Xx_9
  have vp_10 := vp_9.below b10
  clear vp_9
  have vq_10 := vq_9.below b10
  clear vq_9
  clear hcb hfb
  obtain ⟨hcb, hfb, _⟩ := bcell F_10
  go_wp2
  go_ret
  exact ⟨rfl, bstep F_10 B0 B0.size⟩
end Go.Proofs.YtokklkmibjpjnaaGreat

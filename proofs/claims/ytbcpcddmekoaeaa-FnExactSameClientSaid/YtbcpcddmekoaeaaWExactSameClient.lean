/- The walk of the law FnExactSameClient. -/
import Derived.Test.YtbcpcddmekoaeaaCl1
import Derived.Test.YtbcpcddmekoaeaaC5
import Derived.Deep.RegionHeldLaw
namespace Go.Proofs.Ytbcpcddmekoaeaa
set_option linter.unusedSimpArgs false
set_option linter.unusedVariables false
attribute [local go_sem] n_lt2 n_lt3 n_lt4 n_le2 n_le3
open Go.RowKit
attribute [local go_sem] Ext.cell Ext.frozen

set_option maxRecDepth 100000 in
set_option maxHeartbeats 6000000 in
theorem law_ExactSameClient (U0 : Option Addr) (n0 c0 : Nat) (V0 : Option Addr) (m0 d0 : Nat) (i0x0 t0x0 : Int) (zp0 zq0 : List Int) (U1 : Option Addr) (n1 c1 : Nat) (V1 : Option Addr) (m1 d1 : Nat) (i0x1 t0x1 : Int) (zp1 zq1 : List Int) (w : World) (hP0 : Sl w 7 U0 n0 zp0) (hn0 : n0 ≤ c0) (hc0 : c0 ≤ maxLen) (hQ0 : Sl w 4 V0 m0 zq0) (hm0 : m0 ≤ d0) (hd0 : d0 ≤ maxLen) (hP1 : Sl w 7 U1 n1 zp1) (hn1 : n1 ≤ c1) (hc1 : c1 ≤ maxLen) (hQ1 : Sl w 4 V1 m1 zq1) (hm1 : m1 ≤ d1) (hd1 : d1 ≤ maxLen) :
    Calls Try.prog 3 #[.agg #[.int .i64 i0x0, .slice U0 n0 c0, .slice V0 m0 d0, .int .i64 t0x0], .agg #[.int .i64 i0x1, .slice U1 n1 c1, .slice V1 m1 d1, .int .i64 t0x1]] w fun e' w' => e' = .returned (.bool true) ∧ Below w.heap.size w w' := by
  have hnm0 : n0 ≤ maxLen := Nat.le_trans hn0 hc0
  have hmm0 : m0 ≤ maxLen := Nat.le_trans hm0 hd0
  obtain ⟨pl0, hpl0, rfl⟩ := WT_of n0 zp0 hP0.len
  obtain ⟨ql0, hql0, rfl⟩ := GT_of m0 zq0 hQ0.len
  have p0_0 := hP0
  have q0_0 := hQ0
  clear hP0 hQ0
  have hnm1 : n1 ≤ maxLen := Nat.le_trans hn1 hc1
  have hmm1 : m1 ≤ maxLen := Nat.le_trans hm1 hd1
  obtain ⟨pl1, hpl1, rfl⟩ := WT_of n1 zp1 hP1.len
  obtain ⟨ql1, hql1, rfl⟩ := GT_of m1 zq1 hQ1.len
  have p1_0 := hP1
  have q1_0 := hQ1
  clear hP1 hQ1
  by_cases hz0x0 : n0 ≤ 1048576
  rotate_left
  · have hh : 1048576 < n0 := by omega
    clear hz0x0
    go_enter Try.func3, Try.ntmps3
    go_wp2_with fail
    obtain ⟨W0, hW0⟩ : ∃ W0 : World, W0 = ((w.alloc (.cells #[.int .i64 i0x0, .slice U0 n0 c0, .slice V0 m0 d0, .int .i64 t0x0] 25)).alloc (.cells #[.int .i64 i0x1, .slice U1 n1 c1, .slice V1 m1 d1, .int .i64 t0x1] 25)) := ⟨_, rfl⟩
    rw [← hW0]
    have B0 : Below w.heap.size w W0 := by rw [hW0]; (repeat' (first | (with_reducible exact Below.refl _ _) | (with_reducible assumption) | (with_reducible refine Below.alloc ?_ ?_ _) | (with_reducible refine Below.drew ?_) | (with_reducible refine Below.setCell ?_ ?_ _) | (with_reducible refine bstep (by assumption) ?_ ?_) | (with_reducible exact Nat.le_refl _) | omega | (simp [*]; done) | (simp [*]; omega)))
    have s0x0 : w.heap.size < W0.heap.size := by rw [hW0]; first | (simp; done) | (simp; omega)
    have k0x0 : W0.cell? ⟨w.heap.size, 0, none⟩ = some (.int .i64 i0x0) := by rw [hW0]; simp [go_sem]
    have k0x1 : W0.cell? ⟨w.heap.size, 1, none⟩ = some (.slice U0 n0 c0) := by rw [hW0]; simp [go_sem]
    have k0x2 : W0.cell? ⟨w.heap.size, 2, none⟩ = some (.slice V0 m0 d0) := by rw [hW0]; simp [go_sem]
    have k0x3 : W0.cell? ⟨w.heap.size, 3, none⟩ = some (.int .i64 t0x0) := by rw [hW0]; simp [go_sem]
    have s0x1 : w.heap.size + 1 < W0.heap.size := by rw [hW0]; first | (simp; done) | (simp; omega)
    have k1x0 : W0.cell? ⟨w.heap.size + 1, 0, none⟩ = some (.int .i64 i0x1) := by rw [hW0]; simp [go_sem]
    have k1x1 : W0.cell? ⟨w.heap.size + 1, 1, none⟩ = some (.slice U1 n1 c1) := by rw [hW0]; simp [go_sem]
    have k1x2 : W0.cell? ⟨w.heap.size + 1, 2, none⟩ = some (.slice V1 m1 d1) := by rw [hW0]; simp [go_sem]
    have k1x3 : W0.cell? ⟨w.heap.size + 1, 3, none⟩ = some (.int .i64 t0x1) := by rw [hW0]; simp [go_sem]
    replace p0_0 := p0_0.below B0
    replace q0_0 := q0_0.below B0
    replace p1_0 := p1_0.below B0
    replace q1_0 := q1_0.below B0
    clear hW0
    refine (szClient_no1 U0 n0 c0 V0 m0 d0 i0x0 t0x0 (1048576) _ (by omega) (by omega) (by omega) hnm0).mono ?_
    rintro e w1 ⟨rfl, b1⟩
    have p0_1 := p0_0.below b1
    clear p0_0
    have q0_1 := q0_0.below b1
    clear q0_0
    have p1_1 := p1_0.below b1
    clear p1_0
    have q1_1 := q1_0.below b1
    clear q1_0
    have F_1 := b1
    obtain ⟨hcb, hfb, _⟩ := bcell F_1
    go_wp2
    go_ret
    exact ⟨rfl, bstep F_1 B0 B0.size⟩
  by_cases hz0x1 : n0 + m0 ≤ 1048576
  rotate_left
  · have hh : 1048576 < n0 + m0 := by omega
    clear hz0x1
    go_enter Try.func3, Try.ntmps3
    go_wp2_with fail
    obtain ⟨W0, hW0⟩ : ∃ W0 : World, W0 = ((w.alloc (.cells #[.int .i64 i0x0, .slice U0 n0 c0, .slice V0 m0 d0, .int .i64 t0x0] 25)).alloc (.cells #[.int .i64 i0x1, .slice U1 n1 c1, .slice V1 m1 d1, .int .i64 t0x1] 25)) := ⟨_, rfl⟩
    rw [← hW0]
    have B0 : Below w.heap.size w W0 := by rw [hW0]; (repeat' (first | (with_reducible exact Below.refl _ _) | (with_reducible assumption) | (with_reducible refine Below.alloc ?_ ?_ _) | (with_reducible refine Below.drew ?_) | (with_reducible refine Below.setCell ?_ ?_ _) | (with_reducible refine bstep (by assumption) ?_ ?_) | (with_reducible exact Nat.le_refl _) | omega | (simp [*]; done) | (simp [*]; omega)))
    have s0x0 : w.heap.size < W0.heap.size := by rw [hW0]; first | (simp; done) | (simp; omega)
    have k0x0 : W0.cell? ⟨w.heap.size, 0, none⟩ = some (.int .i64 i0x0) := by rw [hW0]; simp [go_sem]
    have k0x1 : W0.cell? ⟨w.heap.size, 1, none⟩ = some (.slice U0 n0 c0) := by rw [hW0]; simp [go_sem]
    have k0x2 : W0.cell? ⟨w.heap.size, 2, none⟩ = some (.slice V0 m0 d0) := by rw [hW0]; simp [go_sem]
    have k0x3 : W0.cell? ⟨w.heap.size, 3, none⟩ = some (.int .i64 t0x0) := by rw [hW0]; simp [go_sem]
    have s0x1 : w.heap.size + 1 < W0.heap.size := by rw [hW0]; first | (simp; done) | (simp; omega)
    have k1x0 : W0.cell? ⟨w.heap.size + 1, 0, none⟩ = some (.int .i64 i0x1) := by rw [hW0]; simp [go_sem]
    have k1x1 : W0.cell? ⟨w.heap.size + 1, 1, none⟩ = some (.slice U1 n1 c1) := by rw [hW0]; simp [go_sem]
    have k1x2 : W0.cell? ⟨w.heap.size + 1, 2, none⟩ = some (.slice V1 m1 d1) := by rw [hW0]; simp [go_sem]
    have k1x3 : W0.cell? ⟨w.heap.size + 1, 3, none⟩ = some (.int .i64 t0x1) := by rw [hW0]; simp [go_sem]
    replace p0_0 := p0_0.below B0
    replace q0_0 := q0_0.below B0
    replace p1_0 := p1_0.below B0
    replace q1_0 := q1_0.below B0
    clear hW0
    refine (szClient_no2 U0 n0 c0 V0 m0 d0 i0x0 t0x0 (1048576) _ (by omega) (by omega) (by omega) hmm0).mono ?_
    rintro e w1 ⟨rfl, b1⟩
    have p0_1 := p0_0.below b1
    clear p0_0
    have q0_1 := q0_0.below b1
    clear q0_0
    have p1_1 := p1_0.below b1
    clear p1_0
    have q1_1 := q1_0.below b1
    clear q1_0
    have F_1 := b1
    obtain ⟨hcb, hfb, _⟩ := bcell F_1
    go_wp2
    go_ret
    exact ⟨rfl, bstep F_1 B0 B0.size⟩
  by_cases hz1x0 : n0 + m0 + n1 ≤ 1048576
  rotate_left
  · have hh : 1048576 < n0 + m0 + n1 := by omega
    clear hz1x0
    go_enter Try.func3, Try.ntmps3
    go_wp2_with fail
    obtain ⟨W0, hW0⟩ : ∃ W0 : World, W0 = ((w.alloc (.cells #[.int .i64 i0x0, .slice U0 n0 c0, .slice V0 m0 d0, .int .i64 t0x0] 25)).alloc (.cells #[.int .i64 i0x1, .slice U1 n1 c1, .slice V1 m1 d1, .int .i64 t0x1] 25)) := ⟨_, rfl⟩
    rw [← hW0]
    have B0 : Below w.heap.size w W0 := by rw [hW0]; (repeat' (first | (with_reducible exact Below.refl _ _) | (with_reducible assumption) | (with_reducible refine Below.alloc ?_ ?_ _) | (with_reducible refine Below.drew ?_) | (with_reducible refine Below.setCell ?_ ?_ _) | (with_reducible refine bstep (by assumption) ?_ ?_) | (with_reducible exact Nat.le_refl _) | omega | (simp [*]; done) | (simp [*]; omega)))
    have s0x0 : w.heap.size < W0.heap.size := by rw [hW0]; first | (simp; done) | (simp; omega)
    have k0x0 : W0.cell? ⟨w.heap.size, 0, none⟩ = some (.int .i64 i0x0) := by rw [hW0]; simp [go_sem]
    have k0x1 : W0.cell? ⟨w.heap.size, 1, none⟩ = some (.slice U0 n0 c0) := by rw [hW0]; simp [go_sem]
    have k0x2 : W0.cell? ⟨w.heap.size, 2, none⟩ = some (.slice V0 m0 d0) := by rw [hW0]; simp [go_sem]
    have k0x3 : W0.cell? ⟨w.heap.size, 3, none⟩ = some (.int .i64 t0x0) := by rw [hW0]; simp [go_sem]
    have s0x1 : w.heap.size + 1 < W0.heap.size := by rw [hW0]; first | (simp; done) | (simp; omega)
    have k1x0 : W0.cell? ⟨w.heap.size + 1, 0, none⟩ = some (.int .i64 i0x1) := by rw [hW0]; simp [go_sem]
    have k1x1 : W0.cell? ⟨w.heap.size + 1, 1, none⟩ = some (.slice U1 n1 c1) := by rw [hW0]; simp [go_sem]
    have k1x2 : W0.cell? ⟨w.heap.size + 1, 2, none⟩ = some (.slice V1 m1 d1) := by rw [hW0]; simp [go_sem]
    have k1x3 : W0.cell? ⟨w.heap.size + 1, 3, none⟩ = some (.int .i64 t0x1) := by rw [hW0]; simp [go_sem]
    replace p0_0 := p0_0.below B0
    replace q0_0 := q0_0.below B0
    replace p1_0 := p1_0.below B0
    replace q1_0 := q1_0.below B0
    clear hW0
    refine (szClient_yes U0 n0 c0 V0 m0 d0 i0x0 t0x0 (1048576) _ (by omega) (by omega)).mono ?_
    rintro e w1 ⟨rfl, b1⟩
    have p0_1 := p0_0.below b1
    clear p0_0
    have q0_1 := q0_0.below b1
    clear q0_0
    have p1_1 := p1_0.below b1
    clear p1_0
    have q1_1 := q1_0.below b1
    clear q1_0
    have F_1 := b1
    obtain ⟨hcb, hfb, _⟩ := bcell F_1
    have lf0 : ¬ ((1048576 : Int) - (n0 : Int) - m0 < 0) := by omega
    go_wp2_with fail
    refine (szClient_no1 U1 n1 c1 V1 m1 d1 i0x1 t0x1 (1048576 - n0 - m0) _ (by omega) (by omega) (by omega) hnm1).mono ?_
    rintro e w2 ⟨rfl, b2⟩
    have p0_2 := p0_1.below b2
    clear p0_1
    have q0_2 := q0_1.below b2
    clear q0_1
    have p1_2 := p1_1.below b2
    clear p1_1
    have q1_2 := q1_1.below b2
    clear q1_1
    have F_2 := bthen F_1 b2
    clear hcb hfb
    obtain ⟨hcb, hfb, _⟩ := bcell F_2
    go_wp2
    go_ret
    exact ⟨rfl, bstep F_2 B0 B0.size⟩
  by_cases hz1x1 : n0 + m0 + n1 + m1 ≤ 1048576
  rotate_left
  · have hh : 1048576 < n0 + m0 + n1 + m1 := by omega
    clear hz1x1
    go_enter Try.func3, Try.ntmps3
    go_wp2_with fail
    obtain ⟨W0, hW0⟩ : ∃ W0 : World, W0 = ((w.alloc (.cells #[.int .i64 i0x0, .slice U0 n0 c0, .slice V0 m0 d0, .int .i64 t0x0] 25)).alloc (.cells #[.int .i64 i0x1, .slice U1 n1 c1, .slice V1 m1 d1, .int .i64 t0x1] 25)) := ⟨_, rfl⟩
    rw [← hW0]
    have B0 : Below w.heap.size w W0 := by rw [hW0]; (repeat' (first | (with_reducible exact Below.refl _ _) | (with_reducible assumption) | (with_reducible refine Below.alloc ?_ ?_ _) | (with_reducible refine Below.drew ?_) | (with_reducible refine Below.setCell ?_ ?_ _) | (with_reducible refine bstep (by assumption) ?_ ?_) | (with_reducible exact Nat.le_refl _) | omega | (simp [*]; done) | (simp [*]; omega)))
    have s0x0 : w.heap.size < W0.heap.size := by rw [hW0]; first | (simp; done) | (simp; omega)
    have k0x0 : W0.cell? ⟨w.heap.size, 0, none⟩ = some (.int .i64 i0x0) := by rw [hW0]; simp [go_sem]
    have k0x1 : W0.cell? ⟨w.heap.size, 1, none⟩ = some (.slice U0 n0 c0) := by rw [hW0]; simp [go_sem]
    have k0x2 : W0.cell? ⟨w.heap.size, 2, none⟩ = some (.slice V0 m0 d0) := by rw [hW0]; simp [go_sem]
    have k0x3 : W0.cell? ⟨w.heap.size, 3, none⟩ = some (.int .i64 t0x0) := by rw [hW0]; simp [go_sem]
    have s0x1 : w.heap.size + 1 < W0.heap.size := by rw [hW0]; first | (simp; done) | (simp; omega)
    have k1x0 : W0.cell? ⟨w.heap.size + 1, 0, none⟩ = some (.int .i64 i0x1) := by rw [hW0]; simp [go_sem]
    have k1x1 : W0.cell? ⟨w.heap.size + 1, 1, none⟩ = some (.slice U1 n1 c1) := by rw [hW0]; simp [go_sem]
    have k1x2 : W0.cell? ⟨w.heap.size + 1, 2, none⟩ = some (.slice V1 m1 d1) := by rw [hW0]; simp [go_sem]
    have k1x3 : W0.cell? ⟨w.heap.size + 1, 3, none⟩ = some (.int .i64 t0x1) := by rw [hW0]; simp [go_sem]
    replace p0_0 := p0_0.below B0
    replace q0_0 := q0_0.below B0
    replace p1_0 := p1_0.below B0
    replace q1_0 := q1_0.below B0
    clear hW0
    refine (szClient_yes U0 n0 c0 V0 m0 d0 i0x0 t0x0 (1048576) _ (by omega) (by omega)).mono ?_
    rintro e w1 ⟨rfl, b1⟩
    have p0_1 := p0_0.below b1
    clear p0_0
    have q0_1 := q0_0.below b1
    clear q0_0
    have p1_1 := p1_0.below b1
    clear p1_0
    have q1_1 := q1_0.below b1
    clear q1_0
    have F_1 := b1
    obtain ⟨hcb, hfb, _⟩ := bcell F_1
    have lf0 : ¬ ((1048576 : Int) - (n0 : Int) - m0 < 0) := by omega
    go_wp2_with fail
    refine (szClient_no2 U1 n1 c1 V1 m1 d1 i0x1 t0x1 (1048576 - n0 - m0) _ (by omega) (by omega) (by omega) hmm1).mono ?_
    rintro e w2 ⟨rfl, b2⟩
    have p0_2 := p0_1.below b2
    clear p0_1
    have q0_2 := q0_1.below b2
    clear q0_1
    have p1_2 := p1_1.below b2
    clear p1_1
    have q1_2 := q1_1.below b2
    clear q1_1
    have F_2 := bthen F_1 b2
    clear hcb hfb
    obtain ⟨hcb, hfb, _⟩ := bcell F_2
    go_wp2
    go_ret
    exact ⟨rfl, bstep F_2 B0 B0.size⟩
  go_enter Try.func3, Try.ntmps3
  go_wp2_with fail
  obtain ⟨W0, hW0⟩ : ∃ W0 : World, W0 = ((w.alloc (.cells #[.int .i64 i0x0, .slice U0 n0 c0, .slice V0 m0 d0, .int .i64 t0x0] 25)).alloc (.cells #[.int .i64 i0x1, .slice U1 n1 c1, .slice V1 m1 d1, .int .i64 t0x1] 25)) := ⟨_, rfl⟩
  rw [← hW0]
  have B0 : Below w.heap.size w W0 := by rw [hW0]; (repeat' (first | (with_reducible exact Below.refl _ _) | (with_reducible assumption) | (with_reducible refine Below.alloc ?_ ?_ _) | (with_reducible refine Below.drew ?_) | (with_reducible refine Below.setCell ?_ ?_ _) | (with_reducible refine bstep (by assumption) ?_ ?_) | (with_reducible exact Nat.le_refl _) | omega | (simp [*]; done) | (simp [*]; omega)))
  have s0x0 : w.heap.size < W0.heap.size := by rw [hW0]; first | (simp; done) | (simp; omega)
  have k0x0 : W0.cell? ⟨w.heap.size, 0, none⟩ = some (.int .i64 i0x0) := by rw [hW0]; simp [go_sem]
  have k0x1 : W0.cell? ⟨w.heap.size, 1, none⟩ = some (.slice U0 n0 c0) := by rw [hW0]; simp [go_sem]
  have k0x2 : W0.cell? ⟨w.heap.size, 2, none⟩ = some (.slice V0 m0 d0) := by rw [hW0]; simp [go_sem]
  have k0x3 : W0.cell? ⟨w.heap.size, 3, none⟩ = some (.int .i64 t0x0) := by rw [hW0]; simp [go_sem]
  have s0x1 : w.heap.size + 1 < W0.heap.size := by rw [hW0]; first | (simp; done) | (simp; omega)
  have k1x0 : W0.cell? ⟨w.heap.size + 1, 0, none⟩ = some (.int .i64 i0x1) := by rw [hW0]; simp [go_sem]
  have k1x1 : W0.cell? ⟨w.heap.size + 1, 1, none⟩ = some (.slice U1 n1 c1) := by rw [hW0]; simp [go_sem]
  have k1x2 : W0.cell? ⟨w.heap.size + 1, 2, none⟩ = some (.slice V1 m1 d1) := by rw [hW0]; simp [go_sem]
  have k1x3 : W0.cell? ⟨w.heap.size + 1, 3, none⟩ = some (.int .i64 t0x1) := by rw [hW0]; simp [go_sem]
  replace p0_0 := p0_0.below B0
  replace q0_0 := q0_0.below B0
  replace p1_0 := p1_0.below B0
  replace q1_0 := q1_0.below B0
  clear hW0
  refine (szClient_yes U0 n0 c0 V0 m0 d0 i0x0 t0x0 (1048576) _ (by omega) (by omega)).mono ?_
  rintro e w1 ⟨rfl, b1⟩
  have p0_1 := p0_0.below b1
  clear p0_0
  have q0_1 := q0_0.below b1
  clear q0_0
  have p1_1 := p1_0.below b1
  clear p1_0
  have q1_1 := q1_0.below b1
  clear q1_0
  have F_1 := b1
  obtain ⟨hcb, hfb, _⟩ := bcell F_1
  have lf0 : ¬ ((1048576 : Int) - (n0 : Int) - m0 < 0) := by omega
  go_wp2_with fail
  refine (szClient_yes U1 n1 c1 V1 m1 d1 i0x1 t0x1 (1048576 - n0 - m0) _ (by omega) (by omega)).mono ?_
  rintro e w2 ⟨rfl, b2⟩
  have p0_2 := p0_1.below b2
  clear p0_1
  have q0_2 := q0_1.below b2
  clear q0_1
  have p1_2 := p1_1.below b2
  clear p1_1
  have q1_2 := q1_1.below b2
  clear q1_1
  have F_2 := bthen F_1 b2
  clear hcb hfb
  obtain ⟨hcb, hfb, _⟩ := bcell F_2
  have lf1 : ¬ ((1048576 : Int) - (n0 : Int) - m0 - n1 - m1 < 0) := by omega
  generalize hq : sameClientB i0x0 pl0 ql0 t0x0 i0x1 pl1 ql1 t0x1 = q
  have lp0 : w.heap.size < w2.heap.size := Nat.lt_of_lt_of_le s0x0 F_2.size
  have lp1 : w.heap.size + 1 < w2.heap.size := Nat.lt_of_lt_of_le s0x1 F_2.size
  go_wp2_with fail
  have hS0_2 : ∀ b o, b < w2.heap.size → w2.cell? ⟨b, o, none⟩ = w2.cell? ⟨b, o, none⟩ := fun b o hb => rfl
  go_region_held_law (fun w' => ∀ b o, b < w2.heap.size → w'.cell? ⟨b, o, none⟩ = w2.cell? ⟨b, o, none⟩) (first | assumption | exact hS0_2) (first | (go_at_call 16; (with_reducible show Calls _ _ #[.agg #[.int .i64 i0x0, .slice U0 n0 c0, .slice V0 m0 d0, .int .i64 t0x0]] _ _); refine (toClient_any U0 n0 c0 V0 m0 d0 i0x0 t0x0 _ _ _ (by exact p0_2) (by exact q0_2) (by omega) (by omega)).mono ?_; rintro e w3 ⟨A_t, c_t, B_t, d_t, rfl, R_tp, R_tq, HAP_t, b3⟩; replace b3 : Below w2.heap.size w2 w3 := ⟨b3.os, b3.tape, b3.output, b3.size, b3.block⟩; have F_3 : Below W0.heap.size W0 w3 := bthen F_2 b3; have E_3 : Below w2.heap.size w2 w3 := b3; have hS3 : ∀ b o, b < w2.heap.size → w3.cell? ⟨b, o, none⟩ = w2.cell? ⟨b, o, none⟩ := fun b o hb => E_3.cell (p := ⟨b, o, none⟩) hb) | (go_at_call 16; (with_reducible show Calls _ _ #[.agg #[.int .i64 i0x1, .slice U1 n1 c1, .slice V1 m1 d1, .int .i64 t0x1]] _ _); refine (toClient_any U1 n1 c1 V1 m1 d1 i0x1 t0x1 _ _ _ (by exact (p1_2.below b3)) (by exact (q1_2.below b3)) (by omega) (by omega)).mono ?_; rintro e w4 ⟨A_u, c_u, B_u, d_u, rfl, R_up, R_uq, HAP_u, b4⟩; have F_4 : Below W0.heap.size W0 w4 := bthen F_3 b4; have E_4 : Below w2.heap.size w2 w4 := bthen E_3 b4; have hS4 : ∀ b o, b < w2.heap.size → w4.cell? ⟨b, o, none⟩ = w2.cell? ⟨b, o, none⟩ := fun b o hb => E_4.cell (p := ⟨b, o, none⟩) hb) | (go_at_call 15; have e1 := specSameClient_any A_t n0 c_t B_t m0 d_t i0x0 t0x0 A_u n1 c_u B_u m1 d_u i0x1 t0x1 pl0 ql0 pl1 ql1 w4 (R_tp.below b4).sl (R_tq.below b4).sl R_up.sl R_uq.sl hpl0 hql0 hpl1 hql1 hnm0 hmm0 hnm1 hmm1; rw [hq] at e1; refine (e1).mono ?_; rintro e w5 ⟨rfl, b5⟩; have F_5 : Below W0.heap.size W0 w5 := bthen F_4 b5; have E_5 : Below w2.heap.size w2 w5 := bthen E_4 b5; have hS5 : ∀ b o, b < w2.heap.size → w5.cell? ⟨b, o, none⟩ = w2.cell? ⟨b, o, none⟩ := fun b o hb => E_5.cell (p := ⟨b, o, none⟩) hb))
  clear hS0_2 hS3 E_3 hS4 E_4 hS5 E_5
  rename (∀ b o, b < w2.heap.size → w5.cell? ⟨b, o, none⟩ = w2.cell? ⟨b, o, none⟩) => hHX
  clear hHX
  clear lp0
  clear lp1
  have L_p0_tp := fun hn => p0_2.lt hn
  have L_q0_tp := fun hn => q0_2.lt hn
  have L_p1_tp := fun hn => p1_2.lt hn
  have L_q1_tp := fun hn => q1_2.lt hn
  have G_tp : W0.heap.size ≤ w2.heap.size := F_2.size
  have L_p0_tq := fun hn => p0_2.lt hn
  have L_q0_tq := fun hn => q0_2.lt hn
  have L_p1_tq := fun hn => p1_2.lt hn
  have L_q1_tq := fun hn => q1_2.lt hn
  have G_tq : W0.heap.size ≤ w2.heap.size := F_2.size
  have p0_3 := p0_2.below b3
  clear p0_2
  have q0_3 := q0_2.below b3
  clear q0_2
  have p1_3 := p1_2.below b3
  clear p1_2
  have q1_3 := q1_2.below b3
  clear q1_2
  have tp_3 := R_tp
  clear R_tp
  have tq_3 := R_tq
  clear R_tq
  clear hcb hfb
  obtain ⟨hcb, hfb, _⟩ := bcell F_3
  have L_p0_up := fun hn => p0_3.lt hn
  have L_q0_up := fun hn => q0_3.lt hn
  have L_p1_up := fun hn => p1_3.lt hn
  have L_q1_up := fun hn => q1_3.lt hn
  have L_tp_up := tp_3.lt
  have L_tq_up := tq_3.lt
  have G_up : W0.heap.size ≤ w3.heap.size := F_3.size
  have L_p0_uq := fun hn => p0_3.lt hn
  have L_q0_uq := fun hn => q0_3.lt hn
  have L_p1_uq := fun hn => p1_3.lt hn
  have L_q1_uq := fun hn => q1_3.lt hn
  have L_tp_uq := tp_3.lt
  have L_tq_uq := tq_3.lt
  have G_uq : W0.heap.size ≤ w3.heap.size := F_3.size
  have p0_4 := p0_3.below b4
  clear p0_3
  have q0_4 := q0_3.below b4
  clear q0_3
  have p1_4 := p1_3.below b4
  clear p1_3
  have q1_4 := q1_3.below b4
  clear q1_3
  have tp_4 := tp_3.below b4
  clear tp_3
  have tq_4 := tq_3.below b4
  clear tq_3
  have up_4 := R_up
  clear R_up
  have uq_4 := R_uq
  clear R_uq
  clear hcb hfb
  obtain ⟨hcb, hfb, _⟩ := bcell F_4
  have p0_5 := p0_4.below b5
  clear p0_4
  have q0_5 := q0_4.below b5
  clear q0_4
  have p1_5 := p1_4.below b5
  clear p1_4
  have q1_5 := q1_4.below b5
  clear q1_4
  have tp_5 := tp_4.below b5
  clear tp_4
  have tq_5 := tq_4.below b5
  clear tq_4
  have up_5 := up_4.below b5
  clear up_4
  have uq_5 := uq_4.below b5
  clear uq_4
  clear hcb hfb
  obtain ⟨hcb, hfb, _⟩ := bcell F_5
  clear e1
  go_wp2_with fail
  refine (toClient_any U0 n0 c0 V0 m0 d0 i0x0 t0x0 _ _ _ (by exact p0_5) (by exact q0_5) (by omega) (by omega)).mono ?_
  rintro e w6 ⟨A_x, c_x, B_x, d_x, rfl, R_xp, R_xq, HAP_x, b6⟩
  have L_p0_xp := fun hn => p0_5.lt hn
  have L_q0_xp := fun hn => q0_5.lt hn
  have L_p1_xp := fun hn => p1_5.lt hn
  have L_q1_xp := fun hn => q1_5.lt hn
  have L_tp_xp := tp_5.lt
  have L_tq_xp := tq_5.lt
  have L_up_xp := up_5.lt
  have L_uq_xp := uq_5.lt
  have G_xp : W0.heap.size ≤ w5.heap.size := F_5.size
  have L_p0_xq := fun hn => p0_5.lt hn
  have L_q0_xq := fun hn => q0_5.lt hn
  have L_p1_xq := fun hn => p1_5.lt hn
  have L_q1_xq := fun hn => q1_5.lt hn
  have L_tp_xq := tp_5.lt
  have L_tq_xq := tq_5.lt
  have L_up_xq := up_5.lt
  have L_uq_xq := uq_5.lt
  have G_xq : W0.heap.size ≤ w5.heap.size := F_5.size
  have p0_6 := p0_5.below b6
  clear p0_5
  have q0_6 := q0_5.below b6
  clear q0_5
  have p1_6 := p1_5.below b6
  clear p1_5
  have q1_6 := q1_5.below b6
  clear q1_5
  have tp_6 := tp_5.below b6
  clear tp_5
  have tq_6 := tq_5.below b6
  clear tq_5
  have up_6 := up_5.below b6
  clear up_5
  have uq_6 := uq_5.below b6
  clear uq_5
  have F_6 := bthen F_5 b6
  have xp_6 := R_xp
  clear R_xp
  have xq_6 := R_xq
  clear R_xq
  clear hcb hfb
  obtain ⟨hcb, hfb, _⟩ := bcell F_6
  go_wp2_with fail
  refine calls_named ?_
  rintro w7 hw7
  have Xx_6 : Blk w7 w6.heap.size 31 #[.int .i64 i0x0, .slice A_x n0 c_x, .slice B_x m0 d_x, .int .i64 t0x0] := by rw [hw7]; exact (Blk.new _ _ _)
  have b7 : Below w6.heap.size w6 w7 := by rw [hw7]; (repeat' (first | (with_reducible exact Below.refl _ _) | (with_reducible assumption) | (with_reducible refine Below.alloc ?_ ?_ _) | (with_reducible refine Below.drew ?_) | (with_reducible refine Below.setCell ?_ ?_ _) | (with_reducible refine bstep (by assumption) ?_ ?_) | (with_reducible exact Nat.le_refl _) | omega | (simp [*]; done) | (simp [*]; omega)))
  clear hw7
  have p0_7 := p0_6.below b7
  clear p0_6
  have q0_7 := q0_6.below b7
  clear q0_6
  have p1_7 := p1_6.below b7
  clear p1_6
  have q1_7 := q1_6.below b7
  clear q1_6
  have tp_7 := tp_6.below b7
  clear tp_6
  have tq_7 := tq_6.below b7
  clear tq_6
  have up_7 := up_6.below b7
  clear up_6
  have uq_7 := uq_6.below b7
  clear uq_6
  have xp_7 := xp_6.below b7
  clear xp_6
  have xq_7 := xq_6.below b7
  clear xq_6
  have F_7 := bthen F_6 b7
  clear hcb hfb
  obtain ⟨hcb, hfb, _⟩ := bcell F_7
  have Xx_7 := Xx_6
  refine (toClient_any U1 n1 c1 V1 m1 d1 i0x1 t0x1 _ _ _ (by exact p1_7) (by exact q1_7) (by omega) (by omega)).mono ?_
  rintro e w8 ⟨A_y, c_y, B_y, d_y, rfl, R_yp, R_yq, HAP_y, b8⟩
  have L_p0_yp := fun hn => p0_7.lt hn
  have L_q0_yp := fun hn => q0_7.lt hn
  have L_p1_yp := fun hn => p1_7.lt hn
  have L_q1_yp := fun hn => q1_7.lt hn
  have L_tp_yp := tp_7.lt
  have L_tq_yp := tq_7.lt
  have L_up_yp := up_7.lt
  have L_uq_yp := uq_7.lt
  have L_xp_yp := xp_7.lt
  have L_xq_yp := xq_7.lt
  have G_yp : W0.heap.size ≤ w7.heap.size := F_7.size
  have L_p0_yq := fun hn => p0_7.lt hn
  have L_q0_yq := fun hn => q0_7.lt hn
  have L_p1_yq := fun hn => p1_7.lt hn
  have L_q1_yq := fun hn => q1_7.lt hn
  have L_tp_yq := tp_7.lt
  have L_tq_yq := tq_7.lt
  have L_up_yq := up_7.lt
  have L_uq_yq := uq_7.lt
  have L_xp_yq := xp_7.lt
  have L_xq_yq := xq_7.lt
  have G_yq : W0.heap.size ≤ w7.heap.size := F_7.size
  have p0_8 := p0_7.below b8
  clear p0_7
  have q0_8 := q0_7.below b8
  clear q0_7
  have p1_8 := p1_7.below b8
  clear p1_7
  have q1_8 := q1_7.below b8
  clear q1_7
  have tp_8 := tp_7.below b8
  clear tp_7
  have tq_8 := tq_7.below b8
  clear tq_7
  have up_8 := up_7.below b8
  clear up_7
  have uq_8 := uq_7.below b8
  clear uq_7
  have xp_8 := xp_7.below b8
  clear xp_7
  have xq_8 := xq_7.below b8
  clear xq_7
  have Xx_8 := Xx_7.below b8
  clear Xx_7
  have F_8 := bthen F_7 b8
  have yp_8 := R_yp
  clear R_yp
  have yq_8 := R_yq
  clear R_yq
  clear hcb hfb
  obtain ⟨hcb, hfb, _⟩ := bcell F_8
  have lt_Xx := Xx_8.lt
  have r_Xx0 := Xx_8.cell 0
  have r_Xx1 := Xx_8.cell 1
  have r_Xx2 := Xx_8.cell 2
  have r_Xx3 := Xx_8.cell 3
  simp only [List.getElem?_toArray, List.getElem?_cons_zero, List.getElem?_cons_succ] at r_Xx0 r_Xx1 r_Xx2 r_Xx3
  go_wp2_with fail
  refine calls_named ?_
  rintro w9 hw9
  have Xy_8 : Blk w9 w8.heap.size 31 #[.int .i64 i0x1, .slice A_y n1 c_y, .slice B_y m1 d_y, .int .i64 t0x1] := by rw [hw9]; exact (Blk.new _ _ _)
  have b9 : Below w8.heap.size w8 w9 := by rw [hw9]; (repeat' (first | (with_reducible exact Below.refl _ _) | (with_reducible assumption) | (with_reducible refine Below.alloc ?_ ?_ _) | (with_reducible refine Below.drew ?_) | (with_reducible refine Below.setCell ?_ ?_ _) | (with_reducible refine bstep (by assumption) ?_ ?_) | (with_reducible exact Nat.le_refl _) | omega | (simp [*]; done) | (simp [*]; omega)))
  clear hw9
  have p0_9 := p0_8.below b9
  clear p0_8
  have q0_9 := q0_8.below b9
  clear q0_8
  have p1_9 := p1_8.below b9
  clear p1_8
  have q1_9 := q1_8.below b9
  clear q1_8
  have tp_9 := tp_8.below b9
  clear tp_8
  have tq_9 := tq_8.below b9
  clear tq_8
  have up_9 := up_8.below b9
  clear up_8
  have uq_9 := uq_8.below b9
  clear uq_8
  have xp_9 := xp_8.below b9
  clear xp_8
  have xq_9 := xq_8.below b9
  clear xq_8
  have Xx_9 := Xx_8.below b9
  clear Xx_8
  have yp_9 := yp_8.below b9
  clear yp_8
  have yq_9 := yq_8.below b9
  clear yq_8
  have F_9 := bthen F_8 b9
  clear hcb hfb
  obtain ⟨hcb, hfb, _⟩ := bcell F_9
  have Xy_9 := Xy_8
  clear lt_Xx r_Xx0 r_Xx1 r_Xx2 r_Xx3
  have lt_Xx := Xx_9.lt
  have r_Xx0 := Xx_9.cell 0
  have r_Xx1 := Xx_9.cell 1
  have r_Xx2 := Xx_9.cell 2
  have r_Xx3 := Xx_9.cell 3
  simp only [List.getElem?_toArray, List.getElem?_cons_zero, List.getElem?_cons_succ] at r_Xx0 r_Xx1 r_Xx2 r_Xx3
  have lt_Xy := Xy_9.lt
  have r_Xy0 := Xy_9.cell 0
  have r_Xy1 := Xy_9.cell 1
  have r_Xy2 := Xy_9.cell 2
  have r_Xy3 := Xy_9.cell 3
  simp only [List.getElem?_toArray, List.getElem?_cons_zero, List.getElem?_cons_succ] at r_Xy0 r_Xy1 r_Xy2 r_Xy3
  have e2 := sameClient_any A_x n0 c_x B_x m0 d_x i0x0 t0x0 A_y n1 c_y B_y m1 d_y i0x1 t0x1 pl0 ql0 pl1 ql1 w9 xp_9.sl xq_9.sl yp_9.sl yq_9.sl hpl0 hql0 hpl1 hql1 hnm0 hmm0 hnm1 hmm1
  rw [hq] at e2
  refine (e2).mono ?_
  rintro e w10 ⟨rfl, b10⟩
  have p0_10 := p0_9.below b10
  clear p0_9
  have q0_10 := q0_9.below b10
  clear q0_9
  have p1_10 := p1_9.below b10
  clear p1_9
  have q1_10 := q1_9.below b10
  clear q1_9
  have tp_10 := tp_9.below b10
  clear tp_9
  have tq_10 := tq_9.below b10
  clear tq_9
  have up_10 := up_9.below b10
  clear up_9
  have uq_10 := uq_9.below b10
  clear uq_9
  have xp_10 := xp_9.below b10
  clear xp_9
  have xq_10 := xq_9.below b10
  clear xq_9
  have Xx_10 := Xx_9.below b10
  clear Xx_9
  have yp_10 := yp_9.below b10
  clear yp_9
  have yq_10 := yq_9.below b10
  clear yq_9
  have Xy_10 := Xy_9.below b10
  clear Xy_9
  have F_10 := bthen F_9 b10
  clear hcb hfb
  obtain ⟨hcb, hfb, _⟩ := bcell F_10
  clear e2 lt_Xx lt_Xy r_Xx0 r_Xx1 r_Xx2 r_Xx3 r_Xy0 r_Xy1 r_Xy2 r_Xy3
  have lt_Xx := Xx_10.lt
  have r_Xx0 := Xx_10.cell 0
  have r_Xx1 := Xx_10.cell 1
  have r_Xx2 := Xx_10.cell 2
  have r_Xx3 := Xx_10.cell 3
  simp only [List.getElem?_toArray, List.getElem?_cons_zero, List.getElem?_cons_succ] at r_Xx0 r_Xx1 r_Xx2 r_Xx3
  have lp0 : w.heap.size < w10.heap.size := Nat.lt_of_lt_of_le s0x0 F_10.size
  go_wp2_with fail
  have hS0_10 : ∀ b o, b < w10.heap.size → w10.cell? ⟨b, o, none⟩ = w10.cell? ⟨b, o, none⟩ := fun b o hb => rfl
  go_region_held_law (fun w' => ∀ b o, b < w10.heap.size → w'.cell? ⟨b, o, none⟩ = w10.cell? ⟨b, o, none⟩) (first | assumption | exact hS0_10) (first | (go_at_call 16; refine (toClient_any U0 n0 c0 V0 m0 d0 i0x0 t0x0 _ _ _ (by exact p0_10) (by exact q0_10) (by omega) (by omega)).mono ?_; rintro e w11 ⟨A_v, c_v, B_v, d_v, rfl, R_vp, R_vq, HAP_v, b11⟩; replace b11 : Below w10.heap.size w10 w11 := ⟨b11.os, b11.tape, b11.output, b11.size, b11.block⟩; have F_11 : Below W0.heap.size W0 w11 := bthen F_10 b11; have E_11 : Below w10.heap.size w10 w11 := b11; have hS11 : ∀ b o, b < w10.heap.size → w11.cell? ⟨b, o, none⟩ = w10.cell? ⟨b, o, none⟩ := fun b o hb => E_11.cell (p := ⟨b, o, none⟩) hb) | (go_at_call 18; refine (eqClient_same A_x A_v n0 c_x c_v B_x B_v m0 d_x d_v i0x0 t0x0 _ _ _ (xp_10.below b11).sl (xq_10.below b11).sl R_vp.sl R_vq.sl hnm0 hmm0).mono ?_; rintro e w12 ⟨rfl, b12⟩; have F_12 : Below W0.heap.size W0 w12 := bthen F_11 b12; have E_12 : Below w10.heap.size w10 w12 := bthen E_11 b12; have hS12 : ∀ b o, b < w10.heap.size → w12.cell? ⟨b, o, none⟩ = w10.cell? ⟨b, o, none⟩ := fun b o hb => E_12.cell (p := ⟨b, o, none⟩) hb))
  clear hS0_10 hS11 E_11 hS12 E_12
  rename (∀ b o, b < w10.heap.size → w12.cell? ⟨b, o, none⟩ = w10.cell? ⟨b, o, none⟩) => hHX
  clear hHX
  clear lt_Xx r_Xx0 r_Xx1 r_Xx2 r_Xx3
  clear lp0
  have L_p0_vp := fun hn => p0_10.lt hn
  have L_q0_vp := fun hn => q0_10.lt hn
  have L_p1_vp := fun hn => p1_10.lt hn
  have L_q1_vp := fun hn => q1_10.lt hn
  have L_tp_vp := tp_10.lt
  have L_tq_vp := tq_10.lt
  have L_up_vp := up_10.lt
  have L_uq_vp := uq_10.lt
  have L_xp_vp := xp_10.lt
  have L_xq_vp := xq_10.lt
  have L_yp_vp := yp_10.lt
  have L_yq_vp := yq_10.lt
  have G_vp : W0.heap.size ≤ w10.heap.size := F_10.size
  have L_p0_vq := fun hn => p0_10.lt hn
  have L_q0_vq := fun hn => q0_10.lt hn
  have L_p1_vq := fun hn => p1_10.lt hn
  have L_q1_vq := fun hn => q1_10.lt hn
  have L_tp_vq := tp_10.lt
  have L_tq_vq := tq_10.lt
  have L_up_vq := up_10.lt
  have L_uq_vq := uq_10.lt
  have L_xp_vq := xp_10.lt
  have L_xq_vq := xq_10.lt
  have L_yp_vq := yp_10.lt
  have L_yq_vq := yq_10.lt
  have G_vq : W0.heap.size ≤ w10.heap.size := F_10.size
  have p0_11 := p0_10.below b11
  clear p0_10
  have q0_11 := q0_10.below b11
  clear q0_10
  have p1_11 := p1_10.below b11
  clear p1_10
  have q1_11 := q1_10.below b11
  clear q1_10
  have tp_11 := tp_10.below b11
  clear tp_10
  have tq_11 := tq_10.below b11
  clear tq_10
  have up_11 := up_10.below b11
  clear up_10
  have uq_11 := uq_10.below b11
  clear uq_10
  have xp_11 := xp_10.below b11
  clear xp_10
  have xq_11 := xq_10.below b11
  clear xq_10
  have Xx_11 := Xx_10.below b11
  clear Xx_10
  have yp_11 := yp_10.below b11
  clear yp_10
  have yq_11 := yq_10.below b11
  clear yq_10
  have Xy_11 := Xy_10.below b11
  clear Xy_10
  have vp_11 := R_vp
  clear R_vp
  have vq_11 := R_vq
  clear R_vq
  clear hcb hfb
  obtain ⟨hcb, hfb, _⟩ := bcell F_11
  have p0_12 := p0_11.below b12
  clear p0_11
  have q0_12 := q0_11.below b12
  clear q0_11
  have p1_12 := p1_11.below b12
  clear p1_11
  have q1_12 := q1_11.below b12
  clear q1_11
  have tp_12 := tp_11.below b12
  clear tp_11
  have tq_12 := tq_11.below b12
  clear tq_11
  have up_12 := up_11.below b12
  clear up_11
  have uq_12 := uq_11.below b12
  clear uq_11
  have xp_12 := xp_11.below b12
  clear xp_11
  have xq_12 := xq_11.below b12
  clear xq_11
  have Xx_12 := Xx_11.below b12
  clear Xx_11
  have yp_12 := yp_11.below b12
  clear yp_11
  have yq_12 := yq_11.below b12
  clear yq_11
  have Xy_12 := Xy_11.below b12
  clear Xy_11
  have vp_12 := vp_11.below b12
  clear vp_11
  have vq_12 := vq_11.below b12
  clear vq_11
  clear hcb hfb
  obtain ⟨hcb, hfb, _⟩ := bcell F_12
  have lt_Xy := Xy_12.lt
  have r_Xy0 := Xy_12.cell 0
  have r_Xy1 := Xy_12.cell 1
  have r_Xy2 := Xy_12.cell 2
  have r_Xy3 := Xy_12.cell 3
  simp only [List.getElem?_toArray, List.getElem?_cons_zero, List.getElem?_cons_succ] at r_Xy0 r_Xy1 r_Xy2 r_Xy3
  have lp1 : w.heap.size + 1 < w12.heap.size := Nat.lt_of_lt_of_le s0x1 F_12.size
  go_wp2_with fail
  have hS0_12 : ∀ b o, b < w12.heap.size → w12.cell? ⟨b, o, none⟩ = w12.cell? ⟨b, o, none⟩ := fun b o hb => rfl
  go_region_held_law (fun w' => ∀ b o, b < w12.heap.size → w'.cell? ⟨b, o, none⟩ = w12.cell? ⟨b, o, none⟩) (first | assumption | exact hS0_12) (first | (go_at_call 16; refine (toClient_any U1 n1 c1 V1 m1 d1 i0x1 t0x1 _ _ _ (by exact p1_12) (by exact q1_12) (by omega) (by omega)).mono ?_; rintro e w13 ⟨A_z, c_z, B_z, d_z, rfl, R_zp, R_zq, HAP_z, b13⟩; replace b13 : Below w12.heap.size w12 w13 := ⟨b13.os, b13.tape, b13.output, b13.size, b13.block⟩; have F_13 : Below W0.heap.size W0 w13 := bthen F_12 b13; have E_13 : Below w12.heap.size w12 w13 := b13; have hS13 : ∀ b o, b < w12.heap.size → w13.cell? ⟨b, o, none⟩ = w12.cell? ⟨b, o, none⟩ := fun b o hb => E_13.cell (p := ⟨b, o, none⟩) hb) | (go_at_call 18; refine (eqClient_same A_y A_z n1 c_y c_z B_y B_z m1 d_y d_z i0x1 t0x1 _ _ _ (yp_12.below b13).sl (yq_12.below b13).sl R_zp.sl R_zq.sl hnm1 hmm1).mono ?_; rintro e w14 ⟨rfl, b14⟩; have F_14 : Below W0.heap.size W0 w14 := bthen F_13 b14; have E_14 : Below w12.heap.size w12 w14 := bthen E_13 b14; have hS14 : ∀ b o, b < w12.heap.size → w14.cell? ⟨b, o, none⟩ = w12.cell? ⟨b, o, none⟩ := fun b o hb => E_14.cell (p := ⟨b, o, none⟩) hb))
  clear hS0_12 hS13 E_13 hS14 E_14
  rename (∀ b o, b < w12.heap.size → w14.cell? ⟨b, o, none⟩ = w12.cell? ⟨b, o, none⟩) => hHX
  clear hHX
  clear lt_Xy r_Xy0 r_Xy1 r_Xy2 r_Xy3
  clear lp1
  have L_p0_zp := fun hn => p0_12.lt hn
  have L_q0_zp := fun hn => q0_12.lt hn
  have L_p1_zp := fun hn => p1_12.lt hn
  have L_q1_zp := fun hn => q1_12.lt hn
  have L_tp_zp := tp_12.lt
  have L_tq_zp := tq_12.lt
  have L_up_zp := up_12.lt
  have L_uq_zp := uq_12.lt
  have L_xp_zp := xp_12.lt
  have L_xq_zp := xq_12.lt
  have L_yp_zp := yp_12.lt
  have L_yq_zp := yq_12.lt
  have L_vp_zp := vp_12.lt
  have L_vq_zp := vq_12.lt
  have G_zp : W0.heap.size ≤ w12.heap.size := F_12.size
  have L_p0_zq := fun hn => p0_12.lt hn
  have L_q0_zq := fun hn => q0_12.lt hn
  have L_p1_zq := fun hn => p1_12.lt hn
  have L_q1_zq := fun hn => q1_12.lt hn
  have L_tp_zq := tp_12.lt
  have L_tq_zq := tq_12.lt
  have L_up_zq := up_12.lt
  have L_uq_zq := uq_12.lt
  have L_xp_zq := xp_12.lt
  have L_xq_zq := xq_12.lt
  have L_yp_zq := yp_12.lt
  have L_yq_zq := yq_12.lt
  have L_vp_zq := vp_12.lt
  have L_vq_zq := vq_12.lt
  have G_zq : W0.heap.size ≤ w12.heap.size := F_12.size
  have p0_13 := p0_12.below b13
  clear p0_12
  have q0_13 := q0_12.below b13
  clear q0_12
  have p1_13 := p1_12.below b13
  clear p1_12
  have q1_13 := q1_12.below b13
  clear q1_12
  have tp_13 := tp_12.below b13
  clear tp_12
  have tq_13 := tq_12.below b13
  clear tq_12
  have up_13 := up_12.below b13
  clear up_12
  have uq_13 := uq_12.below b13
  clear uq_12
  have xp_13 := xp_12.below b13
  clear xp_12
  have xq_13 := xq_12.below b13
  clear xq_12
  have Xx_13 := Xx_12.below b13
  clear Xx_12
  have yp_13 := yp_12.below b13
  clear yp_12
  have yq_13 := yq_12.below b13
  clear yq_12
  have Xy_13 := Xy_12.below b13
  clear Xy_12
  have vp_13 := vp_12.below b13
  clear vp_12
  have vq_13 := vq_12.below b13
  clear vq_12
  have zp_13 := R_zp
  clear R_zp
  have zq_13 := R_zq
  clear R_zq
  clear hcb hfb
  obtain ⟨hcb, hfb, _⟩ := bcell F_13
  have p0_14 := p0_13.below b14
  clear p0_13
  have q0_14 := q0_13.below b14
  clear q0_13
  have p1_14 := p1_13.below b14
  clear p1_13
  have q1_14 := q1_13.below b14
  clear q1_13
  have tp_14 := tp_13.below b14
  clear tp_13
  have tq_14 := tq_13.below b14
  clear tq_13
  have up_14 := up_13.below b14
  clear up_13
  have uq_14 := uq_13.below b14
  clear uq_13
  have xp_14 := xp_13.below b14
  clear xp_13
  have xq_14 := xq_13.below b14
  clear xq_13
  have Xx_14 := Xx_13.below b14
  clear Xx_13
  have yp_14 := yp_13.below b14
  clear yp_13
  have yq_14 := yq_13.below b14
  clear yq_13
  have Xy_14 := Xy_13.below b14
  clear Xy_13
  have vp_14 := vp_13.below b14
  clear vp_13
  have vq_14 := vq_13.below b14
  clear vq_13
  have zp_14 := zp_13.below b14
  clear zp_13
  have zq_14 := zq_13.below b14
  clear zq_13
  clear hcb hfb
  obtain ⟨hcb, hfb, _⟩ := bcell F_14
  go_wp2
  go_ret
  exact ⟨rfl, bstep F_14 B0 B0.size⟩
end Go.Proofs.Ytbcpcddmekoaeaa

/- Part 5 of what the claim rests on: T6, T7, SD2. No condition of its own. -/
import Derived.Test.YtokklkmibjpjnaaBd4
import Derived.Deep.DeepCutAuto
import Derived.Deep.RegionHeldLaw
namespace Go.Proofs.Ytokklkmibjpjnaa
set_option linter.unusedSimpArgs false
set_option linter.unusedVariables false
attribute [local go_sem] n_lt2 n_lt3 n_lt4 n_le2 n_le3
open Go.RowKit
attribute [local go_sem] Ext.cell Ext.frozen
set_option maxRecDepth 100000 in
set_option maxHeartbeats 4000000 in
theorem specApp_bad (A : Option Addr) (n c : Nat) (B : Option Addr) (m d : Nat) (i0 t0 l0 l1 l2 : Int) (pl : List Pr) (ql : List Jb) (ex et ec es ek ea eb eg eh : Int) (w : World) (hP : Sl w 2 A n (PR pl)) (hQ : Sl w 5 B m (JB ql)) (hl : pl.length = n) (hr : ql.length = m) (hn : n ≤ maxLen) (hm : m ≤ maxLen) (hA : A = none → n = 0 ∧ c = 0) (hB : B = none → m = 0 ∧ d = 0) (hS : Hid (stateB i0 t0 l0 l1 l2 pl ql = false)) :
    Calls Try.prog 17 #[.agg #[.int .i64 i0, .int .i64 t0, .slice A n c, .slice B m d, .int .i64 l0, .int .i64 l1, .int .i64 l2], .agg #[.int .i64 ex, .int .i64 et, .int .i64 ec, .int .i64 es, .int .i64 ek, .int .i64 ea, .int .i64 eb, .int .i64 eg, .int .i64 eh]] w (RetStateV w 0 0 0 0 0 0 [] 0 [] (.bool false)) := by
  have HP := Lib.hid hP
  have HQ := Lib.hid hQ
  have HA := Lib.hid hA
  have HB := Lib.hid hB
  have hL := Lib.hid hl
  have hR := Lib.hid hr
  clear hP hQ hA hB hl hr
  go_enter Try.func17, Try.ntmps17
  go_wp2_with fail
  refine calls_named ?_
  rintro v0 hv0
  have f0 : Below w.heap.size w v0 := by rw [hv0]; (repeat' (first | (with_reducible exact Below.refl _ _) | (with_reducible assumption) | (with_reducible refine Below.alloc ?_ ?_ _) | (with_reducible refine Below.drew ?_) | (with_reducible refine Below.setCell ?_ ?_ _) | (with_reducible refine bstep (by assumption) ?_ ?_) | (with_reducible exact Nat.le_refl _) | omega | (simp [*]; done) | (simp [*]; omega)))
  have z0 : w.heap.size + 3 ≤ v0.heap.size := by rw [hv0]; simp [size_set]
  have HP_0 := Lib.hid (HP.out.below f0)
  have HP_lt := Lib.hid (fun hn => HP.out.lt hn)
  have HQ_0 := Lib.hid (HQ.out.below f0)
  have HQ_lt := Lib.hid (fun hn => HQ.out.lt hn)
  have Ha_0 : Hid (Blk v0 w.heap.size 29 #[.int .i64 i0, .int .i64 t0, .slice A n c, .slice B m d, .int .i64 l0, .int .i64 l1, .int .i64 l2]) := by rw [hv0]; exact ((Blk.new_at _ _ _ _ (by simp)).alloc _).alloc _
  have Hb_0 : Hid (Blk v0 (w.heap.size + 1) 49 #[.int .i64 ex, .int .i64 et, .int .i64 ec, .int .i64 es, .int .i64 ek, .int .i64 ea, .int .i64 eb, .int .i64 eg, .int .i64 eh]) := by rw [hv0]; exact (Blk.new_at _ _ _ _ (by simp)).alloc _
  have Hr_0 : Hid (Blk v0 (w.heap.size + 1 + 1) 29 #[.int .i64 0, .int .i64 0, .slice none 0 0, .slice none 0 0, .int .i64 0, .int .i64 0, .int .i64 0]) := by rw [hv0]; exact Blk.new_at _ _ _ _ (by simp)
  clear hv0
  generalize hg2 : w.heap.size + 1 + 1 = g2 at *
  generalize hg1 : w.heap.size + 1 = g1 at *
  have lg1 : w.heap.size < g1 := by omega
  have lg2 : g1 < g2 := by omega
  have lgz : g2 < v0.heap.size := by omega
  have nq1x0 : ¬ g1 = w.heap.size := by omega
  have nq0x1 : ¬ w.heap.size = g1 := by omega
  have nq2x0 : ¬ g2 = w.heap.size := by omega
  have nq0x2 : ¬ w.heap.size = g2 := by omega
  have nq2x1 : ¬ g2 = g1 := by omega
  have nq1x2 : ¬ g1 = g2 := by omega
  clear hg1 hg2
  have lt_a := Ha_0.out.lt
  obtain ⟨r_a0, r_a1, r_a2, r_a3, r_a4, r_a5, r_a6⟩ := bc7 Ha_0.out
  have lt_b := Hb_0.out.lt
  obtain ⟨r_b0, r_b1, r_b2, r_b3, r_b4, r_b5, r_b6, r_b7, r_b8⟩ := bc9 Hb_0.out
  have lt_r := Hr_0.out.lt
  obtain ⟨r_r0, r_r1, r_r2, r_r3, r_r4, r_r5, r_r6⟩ := bc7 Hr_0.out
  obtain ⟨z_r0, z_r1, z_r2, z_r3, z_r4, z_r5, z_r6⟩ := bf7 Hr_0.out
  have cc := specStateOk_any A n c B m d i0 t0 l0 l1 l2 pl ql v0 HP_0.out HQ_0.out hL.out hR.out hn hm
  rw [hS.out] at cc
  refine (cc).mono ?_
  rintro e v1 ⟨rfl, b1⟩
  have f1 := bthen f0 b1
  have z1 := b1.size
  have HP_1 := Lib.hid (HP_0.out.below b1)
  have HQ_1 := Lib.hid (HQ_0.out.below b1)
  have Ha_1 := Lib.hid (Ha_0.out.below b1)
  have Hb_1 := Lib.hid (Hb_0.out.below b1)
  have Hr_1 := Lib.hid (Hr_0.out.below b1)
  clear lt_a r_a0 r_a1 r_a2 r_a3 r_a4 r_a5 r_a6 lt_b r_b0 r_b1 r_b2 r_b3 r_b4 r_b5 r_b6 r_b7 r_b8 lt_r r_r0 r_r1 r_r2 r_r3 r_r4 r_r5 r_r6 z_r0 z_r1 z_r2 z_r3 z_r4 z_r5 z_r6
  clear HP_0 HQ_0 Ha_0 Hb_0 Hr_0
  clear cc
  have lt_a := Ha_1.out.lt
  obtain ⟨r_a0, r_a1, r_a2, r_a3, r_a4, r_a5, r_a6⟩ := bc7 Ha_1.out
  have lt_b := Hb_1.out.lt
  obtain ⟨r_b0, r_b1, r_b2, r_b3, r_b4, r_b5, r_b6, r_b7, r_b8⟩ := bc9 Hb_1.out
  have lt_r := Hr_1.out.lt
  obtain ⟨r_r0, r_r1, r_r2, r_r3, r_r4, r_r5, r_r6⟩ := bc7 Hr_1.out
  obtain ⟨z_r0, z_r1, z_r2, z_r3, z_r4, z_r5, z_r6⟩ := bf7 Hr_1.out
  go_wp21
  refine bodyPost_ret (v := .tuple #[.agg #[.int .i64 0, .int .i64 0, .slice none 0 0, .slice none 0 0, .int .i64 0, .int .i64 0, .int .i64 0], .bool false]) (by simp [results, Try.results17, go_sem, *]) rfl ?_
  exact RetStateV.mk rfl rfl (Row.nil _ _ _ _) (Row.nil _ _ _ _) (fun a b ha => by cases ha) (by (repeat' (first | (with_reducible exact Below.refl _ _) | (with_reducible assumption) | (with_reducible refine Below.alloc ?_ ?_ _) | (with_reducible refine Below.drew ?_) | (with_reducible refine Below.setCell ?_ ?_ _) | (with_reducible refine bstep (by assumption) ?_ ?_) | (with_reducible exact Nat.le_refl _) | omega | (simp [*]; done) | (simp [*]; omega))))
set_option maxRecDepth 100000 in
set_option maxHeartbeats 4000000 in
theorem specApp_not (A : Option Addr) (n c : Nat) (B : Option Addr) (m d : Nat) (i0 t0 l0 l1 l2 : Int) (pl : List Pr) (ql : List Jb) (ex et ec es ek ea eb eg eh : Int) (w : World) (hP : Sl w 2 A n (PR pl)) (hQ : Sl w 5 B m (JB ql)) (hl : pl.length = n) (hr : ql.length = m) (hn : n ≤ maxLen) (hm : m ≤ maxLen) (hA : A = none → n = 0 ∧ c = 0) (hB : B = none → m = 0 ∧ d = 0) (hS : Hid (stateB i0 t0 l0 l1 l2 pl ql = true)) (hn10 : n ≤ 10) (hm8 : m ≤ 8) (hx : Hid (effI i0 t0 l0 l1 l2 pl ql ex et ec es ek ea eb eg eh = (-1))) :
    Calls Try.prog 17 #[.agg #[.int .i64 i0, .int .i64 t0, .slice A n c, .slice B m d, .int .i64 l0, .int .i64 l1, .int .i64 l2], .agg #[.int .i64 ex, .int .i64 et, .int .i64 ec, .int .i64 es, .int .i64 ek, .int .i64 ea, .int .i64 eb, .int .i64 eg, .int .i64 eh]] w (RetStateV w i0 t0 l0 l1 l2 pl.length (PR pl) ql.length (JB ql) (.bool false)) := by
  have HP := Lib.hid hP
  have HQ := Lib.hid hQ
  have HA := Lib.hid hA
  have HB := Lib.hid hB
  have hL := Lib.hid hl
  have hR := Lib.hid hr
  clear hP hQ hA hB hl hr
  go_enter Try.func17, Try.ntmps17
  go_wp2_with fail
  refine calls_named ?_
  rintro v0 hv0
  have f0 : Below w.heap.size w v0 := by rw [hv0]; (repeat' (first | (with_reducible exact Below.refl _ _) | (with_reducible assumption) | (with_reducible refine Below.alloc ?_ ?_ _) | (with_reducible refine Below.drew ?_) | (with_reducible refine Below.setCell ?_ ?_ _) | (with_reducible refine bstep (by assumption) ?_ ?_) | (with_reducible exact Nat.le_refl _) | omega | (simp [*]; done) | (simp [*]; omega)))
  have z0 : w.heap.size + 3 ≤ v0.heap.size := by rw [hv0]; simp [size_set]
  have HP_0 := Lib.hid (HP.out.below f0)
  have HP_lt := Lib.hid (fun hn => HP.out.lt hn)
  have HQ_0 := Lib.hid (HQ.out.below f0)
  have HQ_lt := Lib.hid (fun hn => HQ.out.lt hn)
  have Ha_0 : Hid (Blk v0 w.heap.size 29 #[.int .i64 i0, .int .i64 t0, .slice A n c, .slice B m d, .int .i64 l0, .int .i64 l1, .int .i64 l2]) := by rw [hv0]; exact ((Blk.new_at _ _ _ _ (by simp)).alloc _).alloc _
  have Hb_0 : Hid (Blk v0 (w.heap.size + 1) 49 #[.int .i64 ex, .int .i64 et, .int .i64 ec, .int .i64 es, .int .i64 ek, .int .i64 ea, .int .i64 eb, .int .i64 eg, .int .i64 eh]) := by rw [hv0]; exact (Blk.new_at _ _ _ _ (by simp)).alloc _
  have Hr_0 : Hid (Blk v0 (w.heap.size + 1 + 1) 29 #[.int .i64 0, .int .i64 0, .slice none 0 0, .slice none 0 0, .int .i64 0, .int .i64 0, .int .i64 0]) := by rw [hv0]; exact Blk.new_at _ _ _ _ (by simp)
  clear hv0
  generalize hg2 : w.heap.size + 1 + 1 = g2 at *
  generalize hg1 : w.heap.size + 1 = g1 at *
  have lg1 : w.heap.size < g1 := by omega
  have lg2 : g1 < g2 := by omega
  have lgz : g2 < v0.heap.size := by omega
  have nq1x0 : ¬ g1 = w.heap.size := by omega
  have nq0x1 : ¬ w.heap.size = g1 := by omega
  have nq2x0 : ¬ g2 = w.heap.size := by omega
  have nq0x2 : ¬ w.heap.size = g2 := by omega
  have nq2x1 : ¬ g2 = g1 := by omega
  have nq1x2 : ¬ g1 = g2 := by omega
  clear hg1 hg2
  have lt_a := Ha_0.out.lt
  obtain ⟨r_a0, r_a1, r_a2, r_a3, r_a4, r_a5, r_a6⟩ := bc7 Ha_0.out
  have lt_b := Hb_0.out.lt
  obtain ⟨r_b0, r_b1, r_b2, r_b3, r_b4, r_b5, r_b6, r_b7, r_b8⟩ := bc9 Hb_0.out
  have lt_r := Hr_0.out.lt
  obtain ⟨r_r0, r_r1, r_r2, r_r3, r_r4, r_r5, r_r6⟩ := bc7 Hr_0.out
  obtain ⟨z_r0, z_r1, z_r2, z_r3, z_r4, z_r5, z_r6⟩ := bf7 Hr_0.out
  have cc := specStateOk_any A n c B m d i0 t0 l0 l1 l2 pl ql v0 HP_0.out HQ_0.out hL.out hR.out hn hm
  rw [hS.out] at cc
  refine (cc).mono ?_
  rintro e v1 ⟨rfl, b1⟩
  have f1 := bthen f0 b1
  have z1 := b1.size
  have HP_1 := Lib.hid (HP_0.out.below b1)
  have HQ_1 := Lib.hid (HQ_0.out.below b1)
  have Ha_1 := Lib.hid (Ha_0.out.below b1)
  have Hb_1 := Lib.hid (Hb_0.out.below b1)
  have Hr_1 := Lib.hid (Hr_0.out.below b1)
  clear lt_a r_a0 r_a1 r_a2 r_a3 r_a4 r_a5 r_a6 lt_b r_b0 r_b1 r_b2 r_b3 r_b4 r_b5 r_b6 r_b7 r_b8 lt_r r_r0 r_r1 r_r2 r_r3 r_r4 r_r5 r_r6 z_r0 z_r1 z_r2 z_r3 z_r4 z_r5 z_r6
  clear HP_0 HQ_0 Ha_0 Hb_0 Hr_0
  clear cc
  have lt_a := Ha_1.out.lt
  obtain ⟨r_a0, r_a1, r_a2, r_a3, r_a4, r_a5, r_a6⟩ := bc7 Ha_1.out
  have lt_b := Hb_1.out.lt
  obtain ⟨r_b0, r_b1, r_b2, r_b3, r_b4, r_b5, r_b6, r_b7, r_b8⟩ := bc9 Hb_1.out
  have lt_r := Hr_1.out.lt
  obtain ⟨r_r0, r_r1, r_r2, r_r3, r_r4, r_r5, r_r6⟩ := bc7 Hr_1.out
  obtain ⟨z_r0, z_r1, z_r2, z_r3, z_r4, z_r5, z_r6⟩ := bf7 Hr_1.out
  go_wp2_with fail
  refine (l17Copy_any A n c B m d i0 t0 l0 l1 l2 pl ql _ HP_1.out HQ_1.out hL.out hR.out (by omega) (by omega) HA.out HB.out).mono ?_
  rintro e v2 ⟨A5, c5, B5, d5, rfl, R5, R6, hap, b2⟩
  have HAP := Lib.hid hap
  have Lx := Lib.hid R5.lt
  have Ly := Lib.hid R6.lt
  clear hap
  have f2 := bthen f1 b2
  have z2 := b2.size
  have HP_2 := Lib.hid (HP_1.out.below b2)
  have HQ_2 := Lib.hid (HQ_1.out.below b2)
  have Ha_2 := Lib.hid (Ha_1.out.below b2)
  have Hb_2 := Lib.hid (Hb_1.out.below b2)
  have Hr_2 := Lib.hid (Hr_1.out.below b2)
  clear lt_a r_a0 r_a1 r_a2 r_a3 r_a4 r_a5 r_a6 lt_b r_b0 r_b1 r_b2 r_b3 r_b4 r_b5 r_b6 r_b7 r_b8 lt_r r_r0 r_r1 r_r2 r_r3 r_r4 r_r5 r_r6 z_r0 z_r1 z_r2 z_r3 z_r4 z_r5 z_r6
  clear HP_1 HQ_1 Ha_1 Hb_1 Hr_1
  have Hx_2 := Lib.hid R5
  clear R5
  have Hy_2 := Lib.hid R6
  clear R6
  have lt_a := Ha_2.out.lt
  obtain ⟨r_a0, r_a1, r_a2, r_a3, r_a4, r_a5, r_a6⟩ := bc7 Ha_2.out
  have lt_b := Hb_2.out.lt
  obtain ⟨r_b0, r_b1, r_b2, r_b3, r_b4, r_b5, r_b6, r_b7, r_b8⟩ := bc9 Hb_2.out
  have lt_r := Hr_2.out.lt
  obtain ⟨r_r0, r_r1, r_r2, r_r3, r_r4, r_r5, r_r6⟩ := bc7 Hr_2.out
  obtain ⟨z_r0, z_r1, z_r2, z_r3, z_r4, z_r5, z_r6⟩ := bf7 Hr_2.out
  go_wp2_with fail
  refine calls_named ?_
  rintro v3 hv3
  have f3 : Below w.heap.size w v3 := by rw [hv3]; (repeat' (first | (with_reducible exact Below.refl _ _) | (with_reducible assumption) | (with_reducible refine Below.alloc ?_ ?_ _) | (with_reducible refine Below.drew ?_) | (with_reducible refine Below.setCell ?_ ?_ _) | (with_reducible refine bstep (by assumption) ?_ ?_) | (with_reducible exact Nat.le_refl _) | omega | (simp [*]; done) | (simp [*]; omega)))
  have z3 : v2.heap.size + 1 ≤ v3.heap.size := by rw [hv3]; simp [size_set]
  have HP_3 : Hid (Sl v3 2 A n (PR pl)) := by rw [hv3]; exact (HP_2.out).alloc _
  have HQ_3 : Hid (Sl v3 5 B m (JB ql)) := by rw [hv3]; exact (HQ_2.out).alloc _
  have Ha_3 : Hid (Blk v3 w.heap.size 29 #[.int .i64 i0, .int .i64 t0, .slice A n c, .slice B m d, .int .i64 l0, .int .i64 l1, .int .i64 l2]) := by rw [hv3]; exact (Ha_2.out).alloc _
  have Hb_3 : Hid (Blk v3 g1 49 #[.int .i64 ex, .int .i64 et, .int .i64 ec, .int .i64 es, .int .i64 ek, .int .i64 ea, .int .i64 eb, .int .i64 eg, .int .i64 eh]) := by rw [hv3]; exact (Hb_2.out).alloc _
  have Hr_3 : Hid (Blk v3 g2 29 #[.int .i64 0, .int .i64 0, .slice none 0 0, .slice none 0 0, .int .i64 0, .int .i64 0, .int .i64 0]) := by rw [hv3]; exact (Hr_2.out).alloc _
  have Hx_3 : Hid (Row v3 v1.heap.size 82 2 A5 n c5 (PR pl)) := by rw [hv3]; exact (Hx_2.out).alloc _
  have Hy_3 : Hid (Row v3 v1.heap.size 70 5 B5 m d5 (JB ql)) := by rw [hv3]; exact (Hy_2.out).alloc _
  have Hz_3 : Hid (Blk v3 v2.heap.size 29 #[.int .i64 i0, .int .i64 t0, .slice A5 n c5, .slice B5 m d5, .int .i64 l0, .int .i64 l1, .int .i64 l2]) := by rw [hv3]; exact (Blk.new_at _ _ _ _ (by simp [size_set]))
  clear lt_a r_a0 r_a1 r_a2 r_a3 r_a4 r_a5 r_a6 lt_b r_b0 r_b1 r_b2 r_b3 r_b4 r_b5 r_b6 r_b7 r_b8 lt_r r_r0 r_r1 r_r2 r_r3 r_r4 r_r5 r_r6 z_r0 z_r1 z_r2 z_r3 z_r4 z_r5 z_r6
  clear hv3 HP_2 HQ_2 Ha_2 Hb_2 Hr_2 Hx_2 Hy_2
  have lt_a := Ha_3.out.lt
  obtain ⟨r_a0, r_a1, r_a2, r_a3, r_a4, r_a5, r_a6⟩ := bc7 Ha_3.out
  have lt_b := Hb_3.out.lt
  obtain ⟨r_b0, r_b1, r_b2, r_b3, r_b4, r_b5, r_b6, r_b7, r_b8⟩ := bc9 Hb_3.out
  have lt_r := Hr_3.out.lt
  obtain ⟨r_r0, r_r1, r_r2, r_r3, r_r4, r_r5, r_r6⟩ := bc7 Hr_3.out
  obtain ⟨z_r0, z_r1, z_r2, z_r3, z_r4, z_r5, z_r6⟩ := bf7 Hr_3.out
  have lt_z := Hz_3.out.lt
  obtain ⟨r_z0, r_z1, r_z2, r_z3, r_z4, r_z5, r_z6⟩ := bc7 Hz_3.out
  obtain ⟨z_z0, z_z1, z_z2, z_z3, z_z4, z_z5, z_z6⟩ := bf7 Hz_3.out
  have cc := specEffectOf_any A n c B m d i0 t0 l0 l1 l2 pl ql ex et ec es ek ea eb eg eh v3 HP_3.out HQ_3.out hL.out hR.out hn hm HA.out HB.out _ hx.out
  refine (cc).mono ?_
  rintro e v4 ⟨rfl, b4⟩
  have f4 := bthen f3 b4
  have z4 := b4.size
  have HP_4 := Lib.hid (HP_3.out.below b4)
  have HQ_4 := Lib.hid (HQ_3.out.below b4)
  have Ha_4 := Lib.hid (Ha_3.out.below b4)
  have Hb_4 := Lib.hid (Hb_3.out.below b4)
  have Hr_4 := Lib.hid (Hr_3.out.below b4)
  have Hx_4 := Lib.hid (Hx_3.out.below b4)
  have Hy_4 := Lib.hid (Hy_3.out.below b4)
  have Hz_4 := Lib.hid (Hz_3.out.below b4)
  clear lt_a r_a0 r_a1 r_a2 r_a3 r_a4 r_a5 r_a6 lt_b r_b0 r_b1 r_b2 r_b3 r_b4 r_b5 r_b6 r_b7 r_b8 lt_r r_r0 r_r1 r_r2 r_r3 r_r4 r_r5 r_r6 z_r0 z_r1 z_r2 z_r3 z_r4 z_r5 z_r6 lt_z r_z0 r_z1 r_z2 r_z3 r_z4 r_z5 r_z6 z_z0 z_z1 z_z2 z_z3 z_z4 z_z5 z_z6
  clear HP_3 HQ_3 Ha_3 Hb_3 Hr_3 Hx_3 Hy_3 Hz_3
  clear cc
  have lt_a := Ha_4.out.lt
  obtain ⟨r_a0, r_a1, r_a2, r_a3, r_a4, r_a5, r_a6⟩ := bc7 Ha_4.out
  have lt_b := Hb_4.out.lt
  obtain ⟨r_b0, r_b1, r_b2, r_b3, r_b4, r_b5, r_b6, r_b7, r_b8⟩ := bc9 Hb_4.out
  have lt_r := Hr_4.out.lt
  obtain ⟨r_r0, r_r1, r_r2, r_r3, r_r4, r_r5, r_r6⟩ := bc7 Hr_4.out
  obtain ⟨z_r0, z_r1, z_r2, z_r3, z_r4, z_r5, z_r6⟩ := bf7 Hr_4.out
  have lt_z := Hz_4.out.lt
  obtain ⟨r_z0, r_z1, r_z2, r_z3, r_z4, r_z5, r_z6⟩ := bc7 Hz_4.out
  obtain ⟨z_z0, z_z1, z_z2, z_z3, z_z4, z_z5, z_z6⟩ := bf7 Hz_4.out
  go_wp21
  refine bodyPost_ret (v := .tuple #[.agg #[.int .i64 i0, .int .i64 t0, .slice A5 n c5, .slice B5 m d5, .int .i64 l0, .int .i64 l1, .int .i64 l2], .bool false]) (by simp [results, Try.results17, go_sem, *]) rfl ?_
  have nx : ∀ a, A5 = some a → a.block ≠ g2 := fun a ha => by have := Hx_4.out.ge a ha; omega
  have nzx : ∀ a, A5 = some a → a.block ≠ v2.heap.size := fun a ha => by have := Lx.out a ha; omega
  have ny : ∀ a, B5 = some a → a.block ≠ g2 := fun a ha => by have := Hy_4.out.ge a ha; omega
  have nzy : ∀ a, B5 = some a → a.block ≠ v2.heap.size := fun a ha => by have := Ly.out a ha; omega
  exact RetStateV.mk hL.out hR.out (row_far7 ((Hx_4.out).mono (by omega)) nx _ _ _ _ _ _ _) (row_far7 ((Hy_4.out).mono (by omega)) ny _ _ _ _ _ _ _) HAP.out (by (repeat' (first | (with_reducible exact Below.refl _ _) | (with_reducible assumption) | (with_reducible refine Below.alloc ?_ ?_ _) | (with_reducible refine Below.drew ?_) | (with_reducible refine Below.setCell ?_ ?_ _) | (with_reducible refine bstep (by assumption) ?_ ?_) | (with_reducible exact Nat.le_refl _) | omega | (simp [*]; done) | (simp [*]; omega))))
set_option maxRecDepth 100000 in
set_option maxHeartbeats 4000000 in
theorem specApp_0 (A : Option Addr) (n c : Nat) (B : Option Addr) (m d : Nat) (i0 t0 l0 l1 l2 : Int) (pl : List Pr) (ql : List Jb) (ex et ec es ek ea eb eg eh : Int) (w : World) (hP : Sl w 2 A n (PR pl)) (hQ : Sl w 5 B m (JB ql)) (hl : pl.length = n) (hr : ql.length = m) (hn : n ≤ maxLen) (hm : m ≤ maxLen) (hA : A = none → n = 0 ∧ c = 0) (hB : B = none → m = 0 ∧ d = 0) (hS : Hid (stateB i0 t0 l0 l1 l2 pl ql = true)) (hn10 : n ≤ 10) (hm8 : m ≤ 8) (hx : Hid (effI i0 t0 l0 l1 l2 pl ql ex et ec es ek ea eb eg eh = 0)) :
    Calls Try.prog 17 #[.agg #[.int .i64 i0, .int .i64 t0, .slice A n c, .slice B m d, .int .i64 l0, .int .i64 l1, .int .i64 l2], .agg #[.int .i64 ex, .int .i64 et, .int .i64 ec, .int .i64 es, .int .i64 ek, .int .i64 ea, .int .i64 eb, .int .i64 eg, .int .i64 eh]] w (RetStateV w ex et l0 l1 l2 pl.length (PR pl) ql.length (JB ql) (.bool true)) := by
  have HP := Lib.hid hP
  have HQ := Lib.hid hQ
  have HA := Lib.hid hA
  have HB := Lib.hid hB
  have hL := Lib.hid hl
  have hR := Lib.hid hr
  clear hP hQ hA hB hl hr
  go_enter Try.func17, Try.ntmps17
  go_wp2_with fail
  refine calls_named ?_
  rintro v0 hv0
  have f0 : Below w.heap.size w v0 := by rw [hv0]; (repeat' (first | (with_reducible exact Below.refl _ _) | (with_reducible assumption) | (with_reducible refine Below.alloc ?_ ?_ _) | (with_reducible refine Below.drew ?_) | (with_reducible refine Below.setCell ?_ ?_ _) | (with_reducible refine bstep (by assumption) ?_ ?_) | (with_reducible exact Nat.le_refl _) | omega | (simp [*]; done) | (simp [*]; omega)))
  have z0 : w.heap.size + 3 ≤ v0.heap.size := by rw [hv0]; simp [size_set]
  have HP_0 := Lib.hid (HP.out.below f0)
  have HP_lt := Lib.hid (fun hn => HP.out.lt hn)
  have HQ_0 := Lib.hid (HQ.out.below f0)
  have HQ_lt := Lib.hid (fun hn => HQ.out.lt hn)
  have Ha_0 : Hid (Blk v0 w.heap.size 29 #[.int .i64 i0, .int .i64 t0, .slice A n c, .slice B m d, .int .i64 l0, .int .i64 l1, .int .i64 l2]) := by rw [hv0]; exact ((Blk.new_at _ _ _ _ (by simp)).alloc _).alloc _
  have Hb_0 : Hid (Blk v0 (w.heap.size + 1) 49 #[.int .i64 ex, .int .i64 et, .int .i64 ec, .int .i64 es, .int .i64 ek, .int .i64 ea, .int .i64 eb, .int .i64 eg, .int .i64 eh]) := by rw [hv0]; exact (Blk.new_at _ _ _ _ (by simp)).alloc _
  have Hr_0 : Hid (Blk v0 (w.heap.size + 1 + 1) 29 #[.int .i64 0, .int .i64 0, .slice none 0 0, .slice none 0 0, .int .i64 0, .int .i64 0, .int .i64 0]) := by rw [hv0]; exact Blk.new_at _ _ _ _ (by simp)
  clear hv0
  generalize hg2 : w.heap.size + 1 + 1 = g2 at *
  generalize hg1 : w.heap.size + 1 = g1 at *
  have lg1 : w.heap.size < g1 := by omega
  have lg2 : g1 < g2 := by omega
  have lgz : g2 < v0.heap.size := by omega
  have nq1x0 : ¬ g1 = w.heap.size := by omega
  have nq0x1 : ¬ w.heap.size = g1 := by omega
  have nq2x0 : ¬ g2 = w.heap.size := by omega
  have nq0x2 : ¬ w.heap.size = g2 := by omega
  have nq2x1 : ¬ g2 = g1 := by omega
  have nq1x2 : ¬ g1 = g2 := by omega
  clear hg1 hg2
  have lt_a := Ha_0.out.lt
  obtain ⟨r_a0, r_a1, r_a2, r_a3, r_a4, r_a5, r_a6⟩ := bc7 Ha_0.out
  have lt_b := Hb_0.out.lt
  obtain ⟨r_b0, r_b1, r_b2, r_b3, r_b4, r_b5, r_b6, r_b7, r_b8⟩ := bc9 Hb_0.out
  have lt_r := Hr_0.out.lt
  obtain ⟨r_r0, r_r1, r_r2, r_r3, r_r4, r_r5, r_r6⟩ := bc7 Hr_0.out
  obtain ⟨z_r0, z_r1, z_r2, z_r3, z_r4, z_r5, z_r6⟩ := bf7 Hr_0.out
  have cc := specStateOk_any A n c B m d i0 t0 l0 l1 l2 pl ql v0 HP_0.out HQ_0.out hL.out hR.out hn hm
  rw [hS.out] at cc
  refine (cc).mono ?_
  rintro e v1 ⟨rfl, b1⟩
  have f1 := bthen f0 b1
  have z1 := b1.size
  have HP_1 := Lib.hid (HP_0.out.below b1)
  have HQ_1 := Lib.hid (HQ_0.out.below b1)
  have Ha_1 := Lib.hid (Ha_0.out.below b1)
  have Hb_1 := Lib.hid (Hb_0.out.below b1)
  have Hr_1 := Lib.hid (Hr_0.out.below b1)
  clear lt_a r_a0 r_a1 r_a2 r_a3 r_a4 r_a5 r_a6 lt_b r_b0 r_b1 r_b2 r_b3 r_b4 r_b5 r_b6 r_b7 r_b8 lt_r r_r0 r_r1 r_r2 r_r3 r_r4 r_r5 r_r6 z_r0 z_r1 z_r2 z_r3 z_r4 z_r5 z_r6
  clear HP_0 HQ_0 Ha_0 Hb_0 Hr_0
  clear cc
  have lt_a := Ha_1.out.lt
  obtain ⟨r_a0, r_a1, r_a2, r_a3, r_a4, r_a5, r_a6⟩ := bc7 Ha_1.out
  have lt_b := Hb_1.out.lt
  obtain ⟨r_b0, r_b1, r_b2, r_b3, r_b4, r_b5, r_b6, r_b7, r_b8⟩ := bc9 Hb_1.out
  have lt_r := Hr_1.out.lt
  obtain ⟨r_r0, r_r1, r_r2, r_r3, r_r4, r_r5, r_r6⟩ := bc7 Hr_1.out
  obtain ⟨z_r0, z_r1, z_r2, z_r3, z_r4, z_r5, z_r6⟩ := bf7 Hr_1.out
  go_wp2_with fail
  refine (l17Copy_any A n c B m d i0 t0 l0 l1 l2 pl ql _ HP_1.out HQ_1.out hL.out hR.out (by omega) (by omega) HA.out HB.out).mono ?_
  rintro e v2 ⟨A5, c5, B5, d5, rfl, R5, R6, hap, b2⟩
  have HAP := Lib.hid hap
  have Lx := Lib.hid R5.lt
  have Ly := Lib.hid R6.lt
  clear hap
  have f2 := bthen f1 b2
  have z2 := b2.size
  have HP_2 := Lib.hid (HP_1.out.below b2)
  have HQ_2 := Lib.hid (HQ_1.out.below b2)
  have Ha_2 := Lib.hid (Ha_1.out.below b2)
  have Hb_2 := Lib.hid (Hb_1.out.below b2)
  have Hr_2 := Lib.hid (Hr_1.out.below b2)
  clear lt_a r_a0 r_a1 r_a2 r_a3 r_a4 r_a5 r_a6 lt_b r_b0 r_b1 r_b2 r_b3 r_b4 r_b5 r_b6 r_b7 r_b8 lt_r r_r0 r_r1 r_r2 r_r3 r_r4 r_r5 r_r6 z_r0 z_r1 z_r2 z_r3 z_r4 z_r5 z_r6
  clear HP_1 HQ_1 Ha_1 Hb_1 Hr_1
  have Hx_2 := Lib.hid R5
  clear R5
  have Hy_2 := Lib.hid R6
  clear R6
  have lt_a := Ha_2.out.lt
  obtain ⟨r_a0, r_a1, r_a2, r_a3, r_a4, r_a5, r_a6⟩ := bc7 Ha_2.out
  have lt_b := Hb_2.out.lt
  obtain ⟨r_b0, r_b1, r_b2, r_b3, r_b4, r_b5, r_b6, r_b7, r_b8⟩ := bc9 Hb_2.out
  have lt_r := Hr_2.out.lt
  obtain ⟨r_r0, r_r1, r_r2, r_r3, r_r4, r_r5, r_r6⟩ := bc7 Hr_2.out
  obtain ⟨z_r0, z_r1, z_r2, z_r3, z_r4, z_r5, z_r6⟩ := bf7 Hr_2.out
  go_wp2_with fail
  refine calls_named ?_
  rintro v3 hv3
  have f3 : Below w.heap.size w v3 := by rw [hv3]; (repeat' (first | (with_reducible exact Below.refl _ _) | (with_reducible assumption) | (with_reducible refine Below.alloc ?_ ?_ _) | (with_reducible refine Below.drew ?_) | (with_reducible refine Below.setCell ?_ ?_ _) | (with_reducible refine bstep (by assumption) ?_ ?_) | (with_reducible exact Nat.le_refl _) | omega | (simp [*]; done) | (simp [*]; omega)))
  have z3 : v2.heap.size + 1 ≤ v3.heap.size := by rw [hv3]; simp [size_set]
  have HP_3 : Hid (Sl v3 2 A n (PR pl)) := by rw [hv3]; exact (HP_2.out).alloc _
  have HQ_3 : Hid (Sl v3 5 B m (JB ql)) := by rw [hv3]; exact (HQ_2.out).alloc _
  have Ha_3 : Hid (Blk v3 w.heap.size 29 #[.int .i64 i0, .int .i64 t0, .slice A n c, .slice B m d, .int .i64 l0, .int .i64 l1, .int .i64 l2]) := by rw [hv3]; exact (Ha_2.out).alloc _
  have Hb_3 : Hid (Blk v3 g1 49 #[.int .i64 ex, .int .i64 et, .int .i64 ec, .int .i64 es, .int .i64 ek, .int .i64 ea, .int .i64 eb, .int .i64 eg, .int .i64 eh]) := by rw [hv3]; exact (Hb_2.out).alloc _
  have Hr_3 : Hid (Blk v3 g2 29 #[.int .i64 0, .int .i64 0, .slice none 0 0, .slice none 0 0, .int .i64 0, .int .i64 0, .int .i64 0]) := by rw [hv3]; exact (Hr_2.out).alloc _
  have Hx_3 : Hid (Row v3 v1.heap.size 82 2 A5 n c5 (PR pl)) := by rw [hv3]; exact (Hx_2.out).alloc _
  have Hy_3 : Hid (Row v3 v1.heap.size 70 5 B5 m d5 (JB ql)) := by rw [hv3]; exact (Hy_2.out).alloc _
  have Hz_3 : Hid (Blk v3 v2.heap.size 29 #[.int .i64 i0, .int .i64 t0, .slice A5 n c5, .slice B5 m d5, .int .i64 l0, .int .i64 l1, .int .i64 l2]) := by rw [hv3]; exact (Blk.new_at _ _ _ _ (by simp [size_set]))
  clear lt_a r_a0 r_a1 r_a2 r_a3 r_a4 r_a5 r_a6 lt_b r_b0 r_b1 r_b2 r_b3 r_b4 r_b5 r_b6 r_b7 r_b8 lt_r r_r0 r_r1 r_r2 r_r3 r_r4 r_r5 r_r6 z_r0 z_r1 z_r2 z_r3 z_r4 z_r5 z_r6
  clear hv3 HP_2 HQ_2 Ha_2 Hb_2 Hr_2 Hx_2 Hy_2
  have lt_a := Ha_3.out.lt
  obtain ⟨r_a0, r_a1, r_a2, r_a3, r_a4, r_a5, r_a6⟩ := bc7 Ha_3.out
  have lt_b := Hb_3.out.lt
  obtain ⟨r_b0, r_b1, r_b2, r_b3, r_b4, r_b5, r_b6, r_b7, r_b8⟩ := bc9 Hb_3.out
  have lt_r := Hr_3.out.lt
  obtain ⟨r_r0, r_r1, r_r2, r_r3, r_r4, r_r5, r_r6⟩ := bc7 Hr_3.out
  obtain ⟨z_r0, z_r1, z_r2, z_r3, z_r4, z_r5, z_r6⟩ := bf7 Hr_3.out
  have lt_z := Hz_3.out.lt
  obtain ⟨r_z0, r_z1, r_z2, r_z3, r_z4, r_z5, r_z6⟩ := bc7 Hz_3.out
  obtain ⟨z_z0, z_z1, z_z2, z_z3, z_z4, z_z5, z_z6⟩ := bf7 Hz_3.out
  have cc := specEffectOf_any A n c B m d i0 t0 l0 l1 l2 pl ql ex et ec es ek ea eb eg eh v3 HP_3.out HQ_3.out hL.out hR.out hn hm HA.out HB.out _ hx.out
  refine (cc).mono ?_
  rintro e v4 ⟨rfl, b4⟩
  have f4 := bthen f3 b4
  have z4 := b4.size
  have HP_4 := Lib.hid (HP_3.out.below b4)
  have HQ_4 := Lib.hid (HQ_3.out.below b4)
  have Ha_4 := Lib.hid (Ha_3.out.below b4)
  have Hb_4 := Lib.hid (Hb_3.out.below b4)
  have Hr_4 := Lib.hid (Hr_3.out.below b4)
  have Hx_4 := Lib.hid (Hx_3.out.below b4)
  have Hy_4 := Lib.hid (Hy_3.out.below b4)
  have Hz_4 := Lib.hid (Hz_3.out.below b4)
  clear lt_a r_a0 r_a1 r_a2 r_a3 r_a4 r_a5 r_a6 lt_b r_b0 r_b1 r_b2 r_b3 r_b4 r_b5 r_b6 r_b7 r_b8 lt_r r_r0 r_r1 r_r2 r_r3 r_r4 r_r5 r_r6 z_r0 z_r1 z_r2 z_r3 z_r4 z_r5 z_r6 lt_z r_z0 r_z1 r_z2 r_z3 r_z4 r_z5 r_z6 z_z0 z_z1 z_z2 z_z3 z_z4 z_z5 z_z6
  clear HP_3 HQ_3 Ha_3 Hb_3 Hr_3 Hx_3 Hy_3 Hz_3
  clear cc
  have lt_a := Ha_4.out.lt
  obtain ⟨r_a0, r_a1, r_a2, r_a3, r_a4, r_a5, r_a6⟩ := bc7 Ha_4.out
  have lt_b := Hb_4.out.lt
  obtain ⟨r_b0, r_b1, r_b2, r_b3, r_b4, r_b5, r_b6, r_b7, r_b8⟩ := bc9 Hb_4.out
  have lt_r := Hr_4.out.lt
  obtain ⟨r_r0, r_r1, r_r2, r_r3, r_r4, r_r5, r_r6⟩ := bc7 Hr_4.out
  obtain ⟨z_r0, z_r1, z_r2, z_r3, z_r4, z_r5, z_r6⟩ := bf7 Hr_4.out
  have lt_z := Hz_4.out.lt
  obtain ⟨r_z0, r_z1, r_z2, r_z3, r_z4, r_z5, r_z6⟩ := bc7 Hz_4.out
  obtain ⟨z_z0, z_z1, z_z2, z_z3, z_z4, z_z5, z_z6⟩ := bf7 Hz_4.out
  go_wp21
  refine bodyPost_ret (v := .tuple #[.agg #[.int .i64 ex, .int .i64 et, .slice A5 n c5, .slice B5 m d5, .int .i64 l0, .int .i64 l1, .int .i64 l2], .bool true]) (by simp [results, Try.results17, go_sem, *]) rfl ?_
  have nx : ∀ a, A5 = some a → a.block ≠ g2 := fun a ha => by have := Hx_4.out.ge a ha; omega
  have nzx : ∀ a, A5 = some a → a.block ≠ v2.heap.size := fun a ha => by have := Lx.out a ha; omega
  have ny : ∀ a, B5 = some a → a.block ≠ g2 := fun a ha => by have := Hy_4.out.ge a ha; omega
  have nzy : ∀ a, B5 = some a → a.block ≠ v2.heap.size := fun a ha => by have := Ly.out a ha; omega
  exact RetStateV.mk hL.out hR.out (row_far7 ((((Hx_4.out).far (p := ⟨v2.heap.size, 0, none⟩) nzx _).far (p := ⟨v2.heap.size, 1, none⟩) nzx _).mono (by omega)) nx _ _ _ _ _ _ _) (row_far7 ((((Hy_4.out).far (p := ⟨v2.heap.size, 0, none⟩) nzy _).far (p := ⟨v2.heap.size, 1, none⟩) nzy _).mono (by omega)) ny _ _ _ _ _ _ _) HAP.out (by (repeat' (first | (with_reducible exact Below.refl _ _) | (with_reducible assumption) | (with_reducible refine Below.alloc ?_ ?_ _) | (with_reducible refine Below.drew ?_) | (with_reducible refine Below.setCell ?_ ?_ _) | (with_reducible refine bstep (by assumption) ?_ ?_) | (with_reducible exact Nat.le_refl _) | omega | (simp [*]; done) | (simp [*]; omega))))
set_option maxRecDepth 100000 in
set_option maxHeartbeats 4000000 in
theorem specApp_1 (A : Option Addr) (n c : Nat) (B : Option Addr) (m d : Nat) (i0 t0 l0 l1 l2 : Int) (pl : List Pr) (ql : List Jb) (ex et ec es ea eb eg eh : Int) (w : World) (hP : Sl w 2 A n (PR pl)) (hQ : Sl w 5 B m (JB ql)) (hl : pl.length = n) (hr : ql.length = m) (hn : n ≤ maxLen) (hm : m ≤ maxLen) (hA : A = none → n = 0 ∧ c = 0) (hB : B = none → m = 0 ∧ d = 0) (hS : Hid (stateB i0 t0 l0 l1 l2 pl ql = true)) (hn10 : n ≤ 10) (hm8 : m ≤ 8) (hx : Hid (effI i0 t0 l0 l1 l2 pl ql ex et ec es 1 ea eb eg eh = 1)) (p2 : List Pr) (ok : Bool) (k2 : Nat) (hv : Hid (putR pl ea eb = (p2, ok))) (hk2 : Hid (p2.length = k2)) :
    Calls Try.prog 17 #[.agg #[.int .i64 i0, .int .i64 t0, .slice A n c, .slice B m d, .int .i64 l0, .int .i64 l1, .int .i64 l2], .agg #[.int .i64 ex, .int .i64 et, .int .i64 ec, .int .i64 es, .int .i64 1, .int .i64 ea, .int .i64 eb, .int .i64 eg, .int .i64 eh]] w (RetStateV w ex et l0 l1 l2 p2.length (PR p2) ql.length (JB ql) (.bool true)) := by
  have HP := Lib.hid hP
  have HQ := Lib.hid hQ
  have HA := Lib.hid hA
  have HB := Lib.hid hB
  have hL := Lib.hid hl
  have hR := Lib.hid hr
  clear hP hQ hA hB hl hr
  go_enter Try.func17, Try.ntmps17
  go_wp2_with fail
  refine calls_named ?_
  rintro v0 hv0
  have f0 : Below w.heap.size w v0 := by rw [hv0]; (repeat' (first | (with_reducible exact Below.refl _ _) | (with_reducible assumption) | (with_reducible refine Below.alloc ?_ ?_ _) | (with_reducible refine Below.drew ?_) | (with_reducible refine Below.setCell ?_ ?_ _) | (with_reducible refine bstep (by assumption) ?_ ?_) | (with_reducible exact Nat.le_refl _) | omega | (simp [*]; done) | (simp [*]; omega)))
  have z0 : w.heap.size + 3 ≤ v0.heap.size := by rw [hv0]; simp [size_set]
  have HP_0 := Lib.hid (HP.out.below f0)
  have HP_lt := Lib.hid (fun hn => HP.out.lt hn)
  have HQ_0 := Lib.hid (HQ.out.below f0)
  have HQ_lt := Lib.hid (fun hn => HQ.out.lt hn)
  have Ha_0 : Hid (Blk v0 w.heap.size 29 #[.int .i64 i0, .int .i64 t0, .slice A n c, .slice B m d, .int .i64 l0, .int .i64 l1, .int .i64 l2]) := by rw [hv0]; exact ((Blk.new_at _ _ _ _ (by simp)).alloc _).alloc _
  have Hb_0 : Hid (Blk v0 (w.heap.size + 1) 49 #[.int .i64 ex, .int .i64 et, .int .i64 ec, .int .i64 es, .int .i64 1, .int .i64 ea, .int .i64 eb, .int .i64 eg, .int .i64 eh]) := by rw [hv0]; exact (Blk.new_at _ _ _ _ (by simp)).alloc _
  have Hr_0 : Hid (Blk v0 (w.heap.size + 1 + 1) 29 #[.int .i64 0, .int .i64 0, .slice none 0 0, .slice none 0 0, .int .i64 0, .int .i64 0, .int .i64 0]) := by rw [hv0]; exact Blk.new_at _ _ _ _ (by simp)
  clear hv0
  generalize hg2 : w.heap.size + 1 + 1 = g2 at *
  generalize hg1 : w.heap.size + 1 = g1 at *
  have lg1 : w.heap.size < g1 := by omega
  have lg2 : g1 < g2 := by omega
  have lgz : g2 < v0.heap.size := by omega
  have nq1x0 : ¬ g1 = w.heap.size := by omega
  have nq0x1 : ¬ w.heap.size = g1 := by omega
  have nq2x0 : ¬ g2 = w.heap.size := by omega
  have nq0x2 : ¬ w.heap.size = g2 := by omega
  have nq2x1 : ¬ g2 = g1 := by omega
  have nq1x2 : ¬ g1 = g2 := by omega
  clear hg1 hg2
  have lt_a := Ha_0.out.lt
  obtain ⟨r_a0, r_a1, r_a2, r_a3, r_a4, r_a5, r_a6⟩ := bc7 Ha_0.out
  have lt_b := Hb_0.out.lt
  obtain ⟨r_b0, r_b1, r_b2, r_b3, r_b4, r_b5, r_b6, r_b7, r_b8⟩ := bc9 Hb_0.out
  have lt_r := Hr_0.out.lt
  obtain ⟨r_r0, r_r1, r_r2, r_r3, r_r4, r_r5, r_r6⟩ := bc7 Hr_0.out
  obtain ⟨z_r0, z_r1, z_r2, z_r3, z_r4, z_r5, z_r6⟩ := bf7 Hr_0.out
  have cc := specStateOk_any A n c B m d i0 t0 l0 l1 l2 pl ql v0 HP_0.out HQ_0.out hL.out hR.out hn hm
  rw [hS.out] at cc
  refine (cc).mono ?_
  rintro e v1 ⟨rfl, b1⟩
  have f1 := bthen f0 b1
  have z1 := b1.size
  have HP_1 := Lib.hid (HP_0.out.below b1)
  have HQ_1 := Lib.hid (HQ_0.out.below b1)
  have Ha_1 := Lib.hid (Ha_0.out.below b1)
  have Hb_1 := Lib.hid (Hb_0.out.below b1)
  have Hr_1 := Lib.hid (Hr_0.out.below b1)
  clear lt_a r_a0 r_a1 r_a2 r_a3 r_a4 r_a5 r_a6 lt_b r_b0 r_b1 r_b2 r_b3 r_b4 r_b5 r_b6 r_b7 r_b8 lt_r r_r0 r_r1 r_r2 r_r3 r_r4 r_r5 r_r6 z_r0 z_r1 z_r2 z_r3 z_r4 z_r5 z_r6
  clear HP_0 HQ_0 Ha_0 Hb_0 Hr_0
  clear cc
  have lt_a := Ha_1.out.lt
  obtain ⟨r_a0, r_a1, r_a2, r_a3, r_a4, r_a5, r_a6⟩ := bc7 Ha_1.out
  have lt_b := Hb_1.out.lt
  obtain ⟨r_b0, r_b1, r_b2, r_b3, r_b4, r_b5, r_b6, r_b7, r_b8⟩ := bc9 Hb_1.out
  have lt_r := Hr_1.out.lt
  obtain ⟨r_r0, r_r1, r_r2, r_r3, r_r4, r_r5, r_r6⟩ := bc7 Hr_1.out
  obtain ⟨z_r0, z_r1, z_r2, z_r3, z_r4, z_r5, z_r6⟩ := bf7 Hr_1.out
  go_wp2_with fail
  refine (l17Copy_any A n c B m d i0 t0 l0 l1 l2 pl ql _ HP_1.out HQ_1.out hL.out hR.out (by omega) (by omega) HA.out HB.out).mono ?_
  rintro e v2 ⟨A5, c5, B5, d5, rfl, R5, R6, hap, b2⟩
  have HAP := Lib.hid hap
  have Lx := Lib.hid R5.lt
  have Ly := Lib.hid R6.lt
  clear hap
  have f2 := bthen f1 b2
  have z2 := b2.size
  have HP_2 := Lib.hid (HP_1.out.below b2)
  have HQ_2 := Lib.hid (HQ_1.out.below b2)
  have Ha_2 := Lib.hid (Ha_1.out.below b2)
  have Hb_2 := Lib.hid (Hb_1.out.below b2)
  have Hr_2 := Lib.hid (Hr_1.out.below b2)
  clear lt_a r_a0 r_a1 r_a2 r_a3 r_a4 r_a5 r_a6 lt_b r_b0 r_b1 r_b2 r_b3 r_b4 r_b5 r_b6 r_b7 r_b8 lt_r r_r0 r_r1 r_r2 r_r3 r_r4 r_r5 r_r6 z_r0 z_r1 z_r2 z_r3 z_r4 z_r5 z_r6
  clear HP_1 HQ_1 Ha_1 Hb_1 Hr_1
  have Hx_2 := Lib.hid R5
  clear R5
  have Hy_2 := Lib.hid R6
  clear R6
  have lt_a := Ha_2.out.lt
  obtain ⟨r_a0, r_a1, r_a2, r_a3, r_a4, r_a5, r_a6⟩ := bc7 Ha_2.out
  have lt_b := Hb_2.out.lt
  obtain ⟨r_b0, r_b1, r_b2, r_b3, r_b4, r_b5, r_b6, r_b7, r_b8⟩ := bc9 Hb_2.out
  have lt_r := Hr_2.out.lt
  obtain ⟨r_r0, r_r1, r_r2, r_r3, r_r4, r_r5, r_r6⟩ := bc7 Hr_2.out
  obtain ⟨z_r0, z_r1, z_r2, z_r3, z_r4, z_r5, z_r6⟩ := bf7 Hr_2.out
  go_wp2_with fail
  refine calls_named ?_
  rintro v3 hv3
  have f3 : Below w.heap.size w v3 := by rw [hv3]; (repeat' (first | (with_reducible exact Below.refl _ _) | (with_reducible assumption) | (with_reducible refine Below.alloc ?_ ?_ _) | (with_reducible refine Below.drew ?_) | (with_reducible refine Below.setCell ?_ ?_ _) | (with_reducible refine bstep (by assumption) ?_ ?_) | (with_reducible exact Nat.le_refl _) | omega | (simp [*]; done) | (simp [*]; omega)))
  have z3 : v2.heap.size + 1 ≤ v3.heap.size := by rw [hv3]; simp [size_set]
  have HP_3 : Hid (Sl v3 2 A n (PR pl)) := by rw [hv3]; exact (HP_2.out).alloc _
  have HQ_3 : Hid (Sl v3 5 B m (JB ql)) := by rw [hv3]; exact (HQ_2.out).alloc _
  have Ha_3 : Hid (Blk v3 w.heap.size 29 #[.int .i64 i0, .int .i64 t0, .slice A n c, .slice B m d, .int .i64 l0, .int .i64 l1, .int .i64 l2]) := by rw [hv3]; exact (Ha_2.out).alloc _
  have Hb_3 : Hid (Blk v3 g1 49 #[.int .i64 ex, .int .i64 et, .int .i64 ec, .int .i64 es, .int .i64 1, .int .i64 ea, .int .i64 eb, .int .i64 eg, .int .i64 eh]) := by rw [hv3]; exact (Hb_2.out).alloc _
  have Hr_3 : Hid (Blk v3 g2 29 #[.int .i64 0, .int .i64 0, .slice none 0 0, .slice none 0 0, .int .i64 0, .int .i64 0, .int .i64 0]) := by rw [hv3]; exact (Hr_2.out).alloc _
  have Hx_3 : Hid (Row v3 v1.heap.size 82 2 A5 n c5 (PR pl)) := by rw [hv3]; exact (Hx_2.out).alloc _
  have Hy_3 : Hid (Row v3 v1.heap.size 70 5 B5 m d5 (JB ql)) := by rw [hv3]; exact (Hy_2.out).alloc _
  have Hz_3 : Hid (Blk v3 v2.heap.size 29 #[.int .i64 i0, .int .i64 t0, .slice A5 n c5, .slice B5 m d5, .int .i64 l0, .int .i64 l1, .int .i64 l2]) := by rw [hv3]; exact (Blk.new_at _ _ _ _ (by simp [size_set]))
  clear lt_a r_a0 r_a1 r_a2 r_a3 r_a4 r_a5 r_a6 lt_b r_b0 r_b1 r_b2 r_b3 r_b4 r_b5 r_b6 r_b7 r_b8 lt_r r_r0 r_r1 r_r2 r_r3 r_r4 r_r5 r_r6 z_r0 z_r1 z_r2 z_r3 z_r4 z_r5 z_r6
  clear hv3 HP_2 HQ_2 Ha_2 Hb_2 Hr_2 Hx_2 Hy_2
  have lt_a := Ha_3.out.lt
  obtain ⟨r_a0, r_a1, r_a2, r_a3, r_a4, r_a5, r_a6⟩ := bc7 Ha_3.out
  have lt_b := Hb_3.out.lt
  obtain ⟨r_b0, r_b1, r_b2, r_b3, r_b4, r_b5, r_b6, r_b7, r_b8⟩ := bc9 Hb_3.out
  have lt_r := Hr_3.out.lt
  obtain ⟨r_r0, r_r1, r_r2, r_r3, r_r4, r_r5, r_r6⟩ := bc7 Hr_3.out
  obtain ⟨z_r0, z_r1, z_r2, z_r3, z_r4, z_r5, z_r6⟩ := bf7 Hr_3.out
  have lt_z := Hz_3.out.lt
  obtain ⟨r_z0, r_z1, r_z2, r_z3, r_z4, r_z5, r_z6⟩ := bc7 Hz_3.out
  obtain ⟨z_z0, z_z1, z_z2, z_z3, z_z4, z_z5, z_z6⟩ := bf7 Hz_3.out
  have cc := specEffectOf_any A n c B m d i0 t0 l0 l1 l2 pl ql ex et ec es 1 ea eb eg eh v3 HP_3.out HQ_3.out hL.out hR.out hn hm HA.out HB.out _ hx.out
  refine (cc).mono ?_
  rintro e v4 ⟨rfl, b4⟩
  have f4 := bthen f3 b4
  have z4 := b4.size
  have HP_4 := Lib.hid (HP_3.out.below b4)
  have HQ_4 := Lib.hid (HQ_3.out.below b4)
  have Ha_4 := Lib.hid (Ha_3.out.below b4)
  have Hb_4 := Lib.hid (Hb_3.out.below b4)
  have Hr_4 := Lib.hid (Hr_3.out.below b4)
  have Hx_4 := Lib.hid (Hx_3.out.below b4)
  have Hy_4 := Lib.hid (Hy_3.out.below b4)
  have Hz_4 := Lib.hid (Hz_3.out.below b4)
  clear lt_a r_a0 r_a1 r_a2 r_a3 r_a4 r_a5 r_a6 lt_b r_b0 r_b1 r_b2 r_b3 r_b4 r_b5 r_b6 r_b7 r_b8 lt_r r_r0 r_r1 r_r2 r_r3 r_r4 r_r5 r_r6 z_r0 z_r1 z_r2 z_r3 z_r4 z_r5 z_r6 lt_z r_z0 r_z1 r_z2 r_z3 r_z4 r_z5 r_z6 z_z0 z_z1 z_z2 z_z3 z_z4 z_z5 z_z6
  clear HP_3 HQ_3 Ha_3 Hb_3 Hr_3 Hx_3 Hy_3 Hz_3
  clear cc
  have lt_a := Ha_4.out.lt
  obtain ⟨r_a0, r_a1, r_a2, r_a3, r_a4, r_a5, r_a6⟩ := bc7 Ha_4.out
  have lt_b := Hb_4.out.lt
  obtain ⟨r_b0, r_b1, r_b2, r_b3, r_b4, r_b5, r_b6, r_b7, r_b8⟩ := bc9 Hb_4.out
  have lt_r := Hr_4.out.lt
  obtain ⟨r_r0, r_r1, r_r2, r_r3, r_r4, r_r5, r_r6⟩ := bc7 Hr_4.out
  obtain ⟨z_r0, z_r1, z_r2, z_r3, z_r4, z_r5, z_r6⟩ := bf7 Hr_4.out
  have lt_z := Hz_4.out.lt
  obtain ⟨r_z0, r_z1, r_z2, r_z3, r_z4, r_z5, r_z6⟩ := bc7 Hz_4.out
  obtain ⟨z_z0, z_z1, z_z2, z_z3, z_z4, z_z5, z_z6⟩ := bf7 Hz_4.out
  go_wp2_with fail
  refine calls_named ?_
  rintro v5 hv5
  have f5 : Below w.heap.size w v5 := by rw [hv5]; (repeat' (first | (with_reducible exact Below.refl _ _) | (with_reducible assumption) | (with_reducible refine Below.alloc ?_ ?_ _) | (with_reducible refine Below.drew ?_) | (with_reducible refine Below.setCell ?_ ?_ _) | (with_reducible refine bstep (by assumption) ?_ ?_) | (with_reducible exact Nat.le_refl _) | omega | (simp [*]; done) | (simp [*]; omega)))
  have z5 : v4.heap.size + 0 ≤ v5.heap.size := by rw [hv5]; simp [size_set]
  have HP_5 : Hid (Sl v5 2 A n (PR pl)) := by rw [hv5]; exact ((HP_4.out).far (p := ⟨v2.heap.size, 0, none⟩) (fun hn a ha => by have := HP_lt.out hn a ha; show a.block ≠ v2.heap.size; omega) _).far (p := ⟨v2.heap.size, 1, none⟩) (fun hn a ha => by have := HP_lt.out hn a ha; show a.block ≠ v2.heap.size; omega) _
  have HQ_5 : Hid (Sl v5 5 B m (JB ql)) := by rw [hv5]; exact ((HQ_4.out).far (p := ⟨v2.heap.size, 0, none⟩) (fun hn a ha => by have := HQ_lt.out hn a ha; show a.block ≠ v2.heap.size; omega) _).far (p := ⟨v2.heap.size, 1, none⟩) (fun hn a ha => by have := HQ_lt.out hn a ha; show a.block ≠ v2.heap.size; omega) _
  have Ha_5 : Hid (Blk v5 w.heap.size 29 #[.int .i64 i0, .int .i64 t0, .slice A n c, .slice B m d, .int .i64 l0, .int .i64 l1, .int .i64 l2]) := by rw [hv5]; exact ((Ha_4.out).far (p := ⟨v2.heap.size, 0, none⟩) (show w.heap.size ≠ v2.heap.size by omega) _).far (p := ⟨v2.heap.size, 1, none⟩) (show w.heap.size ≠ v2.heap.size by omega) _
  have Hb_5 : Hid (Blk v5 g1 49 #[.int .i64 ex, .int .i64 et, .int .i64 ec, .int .i64 es, .int .i64 1, .int .i64 ea, .int .i64 eb, .int .i64 eg, .int .i64 eh]) := by rw [hv5]; exact ((Hb_4.out).far (p := ⟨v2.heap.size, 0, none⟩) (show g1 ≠ v2.heap.size by omega) _).far (p := ⟨v2.heap.size, 1, none⟩) (show g1 ≠ v2.heap.size by omega) _
  have Hr_5 : Hid (Blk v5 g2 29 #[.int .i64 0, .int .i64 0, .slice none 0 0, .slice none 0 0, .int .i64 0, .int .i64 0, .int .i64 0]) := by rw [hv5]; exact ((Hr_4.out).far (p := ⟨v2.heap.size, 0, none⟩) (show g2 ≠ v2.heap.size by omega) _).far (p := ⟨v2.heap.size, 1, none⟩) (show g2 ≠ v2.heap.size by omega) _
  have Hx_5 : Hid (Row v5 v1.heap.size 82 2 A5 n c5 (PR pl)) := by rw [hv5]; exact ((Hx_4.out).far (p := ⟨v2.heap.size, 0, none⟩) (fun a ha => by have := Lx.out a ha; show a.block ≠ v2.heap.size; omega) _).far (p := ⟨v2.heap.size, 1, none⟩) (fun a ha => by have := Lx.out a ha; show a.block ≠ v2.heap.size; omega) _
  have Hy_5 : Hid (Row v5 v1.heap.size 70 5 B5 m d5 (JB ql)) := by rw [hv5]; exact ((Hy_4.out).far (p := ⟨v2.heap.size, 0, none⟩) (fun a ha => by have := Ly.out a ha; show a.block ≠ v2.heap.size; omega) _).far (p := ⟨v2.heap.size, 1, none⟩) (fun a ha => by have := Ly.out a ha; show a.block ≠ v2.heap.size; omega) _
  have Hz_5 : Hid (Blk v5 v2.heap.size 29 #[.int .i64 ex, .int .i64 et, .slice A5 n c5, .slice B5 m d5, .int .i64 l0, .int .i64 l1, .int .i64 l2]) := by rw [hv5]; exact ((Hz_4.out).set_ 0 _).set_ 1 _
  clear lt_a r_a0 r_a1 r_a2 r_a3 r_a4 r_a5 r_a6 lt_b r_b0 r_b1 r_b2 r_b3 r_b4 r_b5 r_b6 r_b7 r_b8 lt_r r_r0 r_r1 r_r2 r_r3 r_r4 r_r5 r_r6 z_r0 z_r1 z_r2 z_r3 z_r4 z_r5 z_r6 lt_z r_z0 r_z1 r_z2 r_z3 r_z4 r_z5 r_z6 z_z0 z_z1 z_z2 z_z3 z_z4 z_z5 z_z6
  clear hv5 HP_4 HQ_4 Ha_4 Hb_4 Hr_4 Hx_4 Hy_4 Hz_4
  have lt_a := Ha_5.out.lt
  obtain ⟨r_a0, r_a1, r_a2, r_a3, r_a4, r_a5, r_a6⟩ := bc7 Ha_5.out
  have lt_b := Hb_5.out.lt
  obtain ⟨r_b0, r_b1, r_b2, r_b3, r_b4, r_b5, r_b6, r_b7, r_b8⟩ := bc9 Hb_5.out
  have lt_r := Hr_5.out.lt
  obtain ⟨r_r0, r_r1, r_r2, r_r3, r_r4, r_r5, r_r6⟩ := bc7 Hr_5.out
  obtain ⟨z_r0, z_r1, z_r2, z_r3, z_r4, z_r5, z_r6⟩ := bf7 Hr_5.out
  have lt_z := Hz_5.out.lt
  obtain ⟨r_z0, r_z1, r_z2, r_z3, r_z4, r_z5, r_z6⟩ := bc7 Hz_5.out
  obtain ⟨z_z0, z_z1, z_z2, z_z3, z_z4, z_z5, z_z6⟩ := bf7 Hz_5.out
  have cc := putRS_any A n c pl ea eb v5 HP_5.out hL.out hn HA.out
  rw [hv.out] at cc
  replace cc := cc.mono (fun _ _ h => Lib.hid h)
  have HX : ∀ e w1, RetRowB v5 82 2 (p2, ok).1.length (PR (p2, ok).1) (p2, ok).2 e w1 → RetRowB v5 82 2 k2 (PR p2) ok e w1 := fun e w1 h => by
    have := hk2.out
    subst this
    exact h
  refine cc.mono ?_
  rintro e v6 hx_
  obtain ⟨A6, c6, rfl, R7, b6⟩ := HX _ _ hx_.out
  clear HX hx_ cc
  have Mu := Lib.hid (show v2.heap.size < v5.heap.size from by have := Hz_5.out.lt; exact this)
  have f6 := bthen f5 b6
  have z6 := b6.size
  have HP_6 := Lib.hid (HP_5.out.below b6)
  have HQ_6 := Lib.hid (HQ_5.out.below b6)
  have Ha_6 := Lib.hid (Ha_5.out.below b6)
  have Hb_6 := Lib.hid (Hb_5.out.below b6)
  have Hr_6 := Lib.hid (Hr_5.out.below b6)
  have Hx_6 := Lib.hid (Hx_5.out.below b6)
  have Hy_6 := Lib.hid (Hy_5.out.below b6)
  have Hz_6 := Lib.hid (Hz_5.out.below b6)
  clear lt_a r_a0 r_a1 r_a2 r_a3 r_a4 r_a5 r_a6 lt_b r_b0 r_b1 r_b2 r_b3 r_b4 r_b5 r_b6 r_b7 r_b8 lt_r r_r0 r_r1 r_r2 r_r3 r_r4 r_r5 r_r6 z_r0 z_r1 z_r2 z_r3 z_r4 z_r5 z_r6 lt_z r_z0 r_z1 r_z2 r_z3 r_z4 r_z5 r_z6 z_z0 z_z1 z_z2 z_z3 z_z4 z_z5 z_z6
  clear HP_5 HQ_5 Ha_5 Hb_5 Hr_5 Hx_5 Hy_5 Hz_5
  have Hu_6 := Lib.hid R7
  clear R7
  have lt_a := Ha_6.out.lt
  obtain ⟨r_a0, r_a1, r_a2, r_a3, r_a4, r_a5, r_a6⟩ := bc7 Ha_6.out
  have lt_b := Hb_6.out.lt
  obtain ⟨r_b0, r_b1, r_b2, r_b3, r_b4, r_b5, r_b6, r_b7, r_b8⟩ := bc9 Hb_6.out
  have lt_r := Hr_6.out.lt
  obtain ⟨r_r0, r_r1, r_r2, r_r3, r_r4, r_r5, r_r6⟩ := bc7 Hr_6.out
  obtain ⟨z_r0, z_r1, z_r2, z_r3, z_r4, z_r5, z_r6⟩ := bf7 Hr_6.out
  have lt_z := Hz_6.out.lt
  obtain ⟨r_z0, r_z1, r_z2, r_z3, r_z4, r_z5, r_z6⟩ := bc7 Hz_6.out
  obtain ⟨z_z0, z_z1, z_z2, z_z3, z_z4, z_z5, z_z6⟩ := bf7 Hz_6.out
  have hap2 : ∀ a b, A6 = some a → B5 = some b → a.block ≠ b.block := fun a b ha hb => by
    have h1 := Ly.out b hb
    have h2 := Hu_6.out.ge a ha
    omega
  have HAP2 := Lib.hid hap2
  clear hap2
  go_wp21
  refine bodyPost_ret (v := .tuple #[.agg #[.int .i64 ex, .int .i64 et, .slice A6 k2 c6, .slice B5 m d5, .int .i64 l0, .int .i64 l1, .int .i64 l2], .bool true]) (by simp [results, Try.results17, go_sem, *]) rfl ?_
  have nu : ∀ a, A6 = some a → a.block ≠ g2 := fun a ha => by have := Hu_6.out.ge a ha; omega
  have nzu : ∀ a, A6 = some a → a.block ≠ v2.heap.size := fun a ha => by have := Hu_6.out.ge a ha; have h9 := Mu.out; omega
  have ny : ∀ a, B5 = some a → a.block ≠ g2 := fun a ha => by have := Hy_6.out.ge a ha; omega
  have nzy : ∀ a, B5 = some a → a.block ≠ v2.heap.size := fun a ha => by have := Ly.out a ha; omega
  exact RetStateV.mk hk2.out hR.out (row_far7 (((Hu_6.out).far (p := ⟨v2.heap.size, 2, none⟩) nzu _).mono (by omega)) nu _ _ _ _ _ _ _) (row_far7 (((Hy_6.out).far (p := ⟨v2.heap.size, 2, none⟩) nzy _).mono (by omega)) ny _ _ _ _ _ _ _) HAP2.out (by (repeat' (first | (with_reducible exact Below.refl _ _) | (with_reducible assumption) | (with_reducible refine Below.alloc ?_ ?_ _) | (with_reducible refine Below.drew ?_) | (with_reducible refine Below.setCell ?_ ?_ _) | (with_reducible refine bstep (by assumption) ?_ ?_) | (with_reducible exact Nat.le_refl _) | omega | (simp [*]; done) | (simp [*]; omega))))
set_option maxRecDepth 100000 in
set_option maxHeartbeats 4000000 in
theorem specApp_2 (A : Option Addr) (n c : Nat) (B : Option Addr) (m d : Nat) (i0 t0 l0 l1 l2 : Int) (pl : List Pr) (ql : List Jb) (ex et ec es ea eb eg eh : Int) (w : World) (hP : Sl w 2 A n (PR pl)) (hQ : Sl w 5 B m (JB ql)) (hl : pl.length = n) (hr : ql.length = m) (hn : n ≤ maxLen) (hm : m ≤ maxLen) (hA : A = none → n = 0 ∧ c = 0) (hB : B = none → m = 0 ∧ d = 0) (hS : Hid (stateB i0 t0 l0 l1 l2 pl ql = true)) (hn10 : n ≤ 10) (hm8 : m ≤ 8) (hx : Hid (effI i0 t0 l0 l1 l2 pl ql ex et ec es 2 ea eb eg eh = 2)) (p2 : List Pr) (ok : Bool) (k2 : Nat) (hv : Hid (cutR pl ea = (p2, ok))) (hk2 : Hid (p2.length = k2)) :
    Calls Try.prog 17 #[.agg #[.int .i64 i0, .int .i64 t0, .slice A n c, .slice B m d, .int .i64 l0, .int .i64 l1, .int .i64 l2], .agg #[.int .i64 ex, .int .i64 et, .int .i64 ec, .int .i64 es, .int .i64 2, .int .i64 ea, .int .i64 eb, .int .i64 eg, .int .i64 eh]] w (RetStateV w ex et l0 l1 l2 p2.length (PR p2) ql.length (JB ql) (.bool true)) := by
  have HP := Lib.hid hP
  have HQ := Lib.hid hQ
  have HA := Lib.hid hA
  have HB := Lib.hid hB
  have hL := Lib.hid hl
  have hR := Lib.hid hr
  clear hP hQ hA hB hl hr
  go_enter Try.func17, Try.ntmps17
  go_wp2_with fail
  refine calls_named ?_
  rintro v0 hv0
  have f0 : Below w.heap.size w v0 := by rw [hv0]; (repeat' (first | (with_reducible exact Below.refl _ _) | (with_reducible assumption) | (with_reducible refine Below.alloc ?_ ?_ _) | (with_reducible refine Below.drew ?_) | (with_reducible refine Below.setCell ?_ ?_ _) | (with_reducible refine bstep (by assumption) ?_ ?_) | (with_reducible exact Nat.le_refl _) | omega | (simp [*]; done) | (simp [*]; omega)))
  have z0 : w.heap.size + 3 ≤ v0.heap.size := by rw [hv0]; simp [size_set]
  have HP_0 := Lib.hid (HP.out.below f0)
  have HP_lt := Lib.hid (fun hn => HP.out.lt hn)
  have HQ_0 := Lib.hid (HQ.out.below f0)
  have HQ_lt := Lib.hid (fun hn => HQ.out.lt hn)
  have Ha_0 : Hid (Blk v0 w.heap.size 29 #[.int .i64 i0, .int .i64 t0, .slice A n c, .slice B m d, .int .i64 l0, .int .i64 l1, .int .i64 l2]) := by rw [hv0]; exact ((Blk.new_at _ _ _ _ (by simp)).alloc _).alloc _
  have Hb_0 : Hid (Blk v0 (w.heap.size + 1) 49 #[.int .i64 ex, .int .i64 et, .int .i64 ec, .int .i64 es, .int .i64 2, .int .i64 ea, .int .i64 eb, .int .i64 eg, .int .i64 eh]) := by rw [hv0]; exact (Blk.new_at _ _ _ _ (by simp)).alloc _
  have Hr_0 : Hid (Blk v0 (w.heap.size + 1 + 1) 29 #[.int .i64 0, .int .i64 0, .slice none 0 0, .slice none 0 0, .int .i64 0, .int .i64 0, .int .i64 0]) := by rw [hv0]; exact Blk.new_at _ _ _ _ (by simp)
  clear hv0
  generalize hg2 : w.heap.size + 1 + 1 = g2 at *
  generalize hg1 : w.heap.size + 1 = g1 at *
  have lg1 : w.heap.size < g1 := by omega
  have lg2 : g1 < g2 := by omega
  have lgz : g2 < v0.heap.size := by omega
  have nq1x0 : ¬ g1 = w.heap.size := by omega
  have nq0x1 : ¬ w.heap.size = g1 := by omega
  have nq2x0 : ¬ g2 = w.heap.size := by omega
  have nq0x2 : ¬ w.heap.size = g2 := by omega
  have nq2x1 : ¬ g2 = g1 := by omega
  have nq1x2 : ¬ g1 = g2 := by omega
  clear hg1 hg2
  have lt_a := Ha_0.out.lt
  obtain ⟨r_a0, r_a1, r_a2, r_a3, r_a4, r_a5, r_a6⟩ := bc7 Ha_0.out
  have lt_b := Hb_0.out.lt
  obtain ⟨r_b0, r_b1, r_b2, r_b3, r_b4, r_b5, r_b6, r_b7, r_b8⟩ := bc9 Hb_0.out
  have lt_r := Hr_0.out.lt
  obtain ⟨r_r0, r_r1, r_r2, r_r3, r_r4, r_r5, r_r6⟩ := bc7 Hr_0.out
  obtain ⟨z_r0, z_r1, z_r2, z_r3, z_r4, z_r5, z_r6⟩ := bf7 Hr_0.out
  have cc := specStateOk_any A n c B m d i0 t0 l0 l1 l2 pl ql v0 HP_0.out HQ_0.out hL.out hR.out hn hm
  rw [hS.out] at cc
  refine (cc).mono ?_
  rintro e v1 ⟨rfl, b1⟩
  have f1 := bthen f0 b1
  have z1 := b1.size
  have HP_1 := Lib.hid (HP_0.out.below b1)
  have HQ_1 := Lib.hid (HQ_0.out.below b1)
  have Ha_1 := Lib.hid (Ha_0.out.below b1)
  have Hb_1 := Lib.hid (Hb_0.out.below b1)
  have Hr_1 := Lib.hid (Hr_0.out.below b1)
  clear lt_a r_a0 r_a1 r_a2 r_a3 r_a4 r_a5 r_a6 lt_b r_b0 r_b1 r_b2 r_b3 r_b4 r_b5 r_b6 r_b7 r_b8 lt_r r_r0 r_r1 r_r2 r_r3 r_r4 r_r5 r_r6 z_r0 z_r1 z_r2 z_r3 z_r4 z_r5 z_r6
  clear HP_0 HQ_0 Ha_0 Hb_0 Hr_0
  clear cc
  have lt_a := Ha_1.out.lt
  obtain ⟨r_a0, r_a1, r_a2, r_a3, r_a4, r_a5, r_a6⟩ := bc7 Ha_1.out
  have lt_b := Hb_1.out.lt
  obtain ⟨r_b0, r_b1, r_b2, r_b3, r_b4, r_b5, r_b6, r_b7, r_b8⟩ := bc9 Hb_1.out
  have lt_r := Hr_1.out.lt
  obtain ⟨r_r0, r_r1, r_r2, r_r3, r_r4, r_r5, r_r6⟩ := bc7 Hr_1.out
  obtain ⟨z_r0, z_r1, z_r2, z_r3, z_r4, z_r5, z_r6⟩ := bf7 Hr_1.out
  go_wp2_with fail
  refine (l17Copy_any A n c B m d i0 t0 l0 l1 l2 pl ql _ HP_1.out HQ_1.out hL.out hR.out (by omega) (by omega) HA.out HB.out).mono ?_
  rintro e v2 ⟨A5, c5, B5, d5, rfl, R5, R6, hap, b2⟩
  have HAP := Lib.hid hap
  have Lx := Lib.hid R5.lt
  have Ly := Lib.hid R6.lt
  clear hap
  have f2 := bthen f1 b2
  have z2 := b2.size
  have HP_2 := Lib.hid (HP_1.out.below b2)
  have HQ_2 := Lib.hid (HQ_1.out.below b2)
  have Ha_2 := Lib.hid (Ha_1.out.below b2)
  have Hb_2 := Lib.hid (Hb_1.out.below b2)
  have Hr_2 := Lib.hid (Hr_1.out.below b2)
  clear lt_a r_a0 r_a1 r_a2 r_a3 r_a4 r_a5 r_a6 lt_b r_b0 r_b1 r_b2 r_b3 r_b4 r_b5 r_b6 r_b7 r_b8 lt_r r_r0 r_r1 r_r2 r_r3 r_r4 r_r5 r_r6 z_r0 z_r1 z_r2 z_r3 z_r4 z_r5 z_r6
  clear HP_1 HQ_1 Ha_1 Hb_1 Hr_1
  have Hx_2 := Lib.hid R5
  clear R5
  have Hy_2 := Lib.hid R6
  clear R6
  have lt_a := Ha_2.out.lt
  obtain ⟨r_a0, r_a1, r_a2, r_a3, r_a4, r_a5, r_a6⟩ := bc7 Ha_2.out
  have lt_b := Hb_2.out.lt
  obtain ⟨r_b0, r_b1, r_b2, r_b3, r_b4, r_b5, r_b6, r_b7, r_b8⟩ := bc9 Hb_2.out
  have lt_r := Hr_2.out.lt
  obtain ⟨r_r0, r_r1, r_r2, r_r3, r_r4, r_r5, r_r6⟩ := bc7 Hr_2.out
  obtain ⟨z_r0, z_r1, z_r2, z_r3, z_r4, z_r5, z_r6⟩ := bf7 Hr_2.out
  go_wp2_with fail
  refine calls_named ?_
  rintro v3 hv3
  have f3 : Below w.heap.size w v3 := by rw [hv3]; (repeat' (first | (with_reducible exact Below.refl _ _) | (with_reducible assumption) | (with_reducible refine Below.alloc ?_ ?_ _) | (with_reducible refine Below.drew ?_) | (with_reducible refine Below.setCell ?_ ?_ _) | (with_reducible refine bstep (by assumption) ?_ ?_) | (with_reducible exact Nat.le_refl _) | omega | (simp [*]; done) | (simp [*]; omega)))
  have z3 : v2.heap.size + 1 ≤ v3.heap.size := by rw [hv3]; simp [size_set]
  have HP_3 : Hid (Sl v3 2 A n (PR pl)) := by rw [hv3]; exact (HP_2.out).alloc _
  have HQ_3 : Hid (Sl v3 5 B m (JB ql)) := by rw [hv3]; exact (HQ_2.out).alloc _
  have Ha_3 : Hid (Blk v3 w.heap.size 29 #[.int .i64 i0, .int .i64 t0, .slice A n c, .slice B m d, .int .i64 l0, .int .i64 l1, .int .i64 l2]) := by rw [hv3]; exact (Ha_2.out).alloc _
  have Hb_3 : Hid (Blk v3 g1 49 #[.int .i64 ex, .int .i64 et, .int .i64 ec, .int .i64 es, .int .i64 2, .int .i64 ea, .int .i64 eb, .int .i64 eg, .int .i64 eh]) := by rw [hv3]; exact (Hb_2.out).alloc _
  have Hr_3 : Hid (Blk v3 g2 29 #[.int .i64 0, .int .i64 0, .slice none 0 0, .slice none 0 0, .int .i64 0, .int .i64 0, .int .i64 0]) := by rw [hv3]; exact (Hr_2.out).alloc _
  have Hx_3 : Hid (Row v3 v1.heap.size 82 2 A5 n c5 (PR pl)) := by rw [hv3]; exact (Hx_2.out).alloc _
  have Hy_3 : Hid (Row v3 v1.heap.size 70 5 B5 m d5 (JB ql)) := by rw [hv3]; exact (Hy_2.out).alloc _
  have Hz_3 : Hid (Blk v3 v2.heap.size 29 #[.int .i64 i0, .int .i64 t0, .slice A5 n c5, .slice B5 m d5, .int .i64 l0, .int .i64 l1, .int .i64 l2]) := by rw [hv3]; exact (Blk.new_at _ _ _ _ (by simp [size_set]))
  clear lt_a r_a0 r_a1 r_a2 r_a3 r_a4 r_a5 r_a6 lt_b r_b0 r_b1 r_b2 r_b3 r_b4 r_b5 r_b6 r_b7 r_b8 lt_r r_r0 r_r1 r_r2 r_r3 r_r4 r_r5 r_r6 z_r0 z_r1 z_r2 z_r3 z_r4 z_r5 z_r6
  clear hv3 HP_2 HQ_2 Ha_2 Hb_2 Hr_2 Hx_2 Hy_2
  have lt_a := Ha_3.out.lt
  obtain ⟨r_a0, r_a1, r_a2, r_a3, r_a4, r_a5, r_a6⟩ := bc7 Ha_3.out
  have lt_b := Hb_3.out.lt
  obtain ⟨r_b0, r_b1, r_b2, r_b3, r_b4, r_b5, r_b6, r_b7, r_b8⟩ := bc9 Hb_3.out
  have lt_r := Hr_3.out.lt
  obtain ⟨r_r0, r_r1, r_r2, r_r3, r_r4, r_r5, r_r6⟩ := bc7 Hr_3.out
  obtain ⟨z_r0, z_r1, z_r2, z_r3, z_r4, z_r5, z_r6⟩ := bf7 Hr_3.out
  have lt_z := Hz_3.out.lt
  obtain ⟨r_z0, r_z1, r_z2, r_z3, r_z4, r_z5, r_z6⟩ := bc7 Hz_3.out
  obtain ⟨z_z0, z_z1, z_z2, z_z3, z_z4, z_z5, z_z6⟩ := bf7 Hz_3.out
  have cc := specEffectOf_any A n c B m d i0 t0 l0 l1 l2 pl ql ex et ec es 2 ea eb eg eh v3 HP_3.out HQ_3.out hL.out hR.out hn hm HA.out HB.out _ hx.out
  refine (cc).mono ?_
  rintro e v4 ⟨rfl, b4⟩
  have f4 := bthen f3 b4
  have z4 := b4.size
  have HP_4 := Lib.hid (HP_3.out.below b4)
  have HQ_4 := Lib.hid (HQ_3.out.below b4)
  have Ha_4 := Lib.hid (Ha_3.out.below b4)
  have Hb_4 := Lib.hid (Hb_3.out.below b4)
  have Hr_4 := Lib.hid (Hr_3.out.below b4)
  have Hx_4 := Lib.hid (Hx_3.out.below b4)
  have Hy_4 := Lib.hid (Hy_3.out.below b4)
  have Hz_4 := Lib.hid (Hz_3.out.below b4)
  clear lt_a r_a0 r_a1 r_a2 r_a3 r_a4 r_a5 r_a6 lt_b r_b0 r_b1 r_b2 r_b3 r_b4 r_b5 r_b6 r_b7 r_b8 lt_r r_r0 r_r1 r_r2 r_r3 r_r4 r_r5 r_r6 z_r0 z_r1 z_r2 z_r3 z_r4 z_r5 z_r6 lt_z r_z0 r_z1 r_z2 r_z3 r_z4 r_z5 r_z6 z_z0 z_z1 z_z2 z_z3 z_z4 z_z5 z_z6
  clear HP_3 HQ_3 Ha_3 Hb_3 Hr_3 Hx_3 Hy_3 Hz_3
  clear cc
  have lt_a := Ha_4.out.lt
  obtain ⟨r_a0, r_a1, r_a2, r_a3, r_a4, r_a5, r_a6⟩ := bc7 Ha_4.out
  have lt_b := Hb_4.out.lt
  obtain ⟨r_b0, r_b1, r_b2, r_b3, r_b4, r_b5, r_b6, r_b7, r_b8⟩ := bc9 Hb_4.out
  have lt_r := Hr_4.out.lt
  obtain ⟨r_r0, r_r1, r_r2, r_r3, r_r4, r_r5, r_r6⟩ := bc7 Hr_4.out
  obtain ⟨z_r0, z_r1, z_r2, z_r3, z_r4, z_r5, z_r6⟩ := bf7 Hr_4.out
  have lt_z := Hz_4.out.lt
  obtain ⟨r_z0, r_z1, r_z2, r_z3, r_z4, r_z5, r_z6⟩ := bc7 Hz_4.out
  obtain ⟨z_z0, z_z1, z_z2, z_z3, z_z4, z_z5, z_z6⟩ := bf7 Hz_4.out
  go_wp2_with fail
  refine calls_named ?_
  rintro v5 hv5
  have f5 : Below w.heap.size w v5 := by rw [hv5]; (repeat' (first | (with_reducible exact Below.refl _ _) | (with_reducible assumption) | (with_reducible refine Below.alloc ?_ ?_ _) | (with_reducible refine Below.drew ?_) | (with_reducible refine Below.setCell ?_ ?_ _) | (with_reducible refine bstep (by assumption) ?_ ?_) | (with_reducible exact Nat.le_refl _) | omega | (simp [*]; done) | (simp [*]; omega)))
  have z5 : v4.heap.size + 0 ≤ v5.heap.size := by rw [hv5]; simp [size_set]
  have HP_5 : Hid (Sl v5 2 A n (PR pl)) := by rw [hv5]; exact ((HP_4.out).far (p := ⟨v2.heap.size, 0, none⟩) (fun hn a ha => by have := HP_lt.out hn a ha; show a.block ≠ v2.heap.size; omega) _).far (p := ⟨v2.heap.size, 1, none⟩) (fun hn a ha => by have := HP_lt.out hn a ha; show a.block ≠ v2.heap.size; omega) _
  have HQ_5 : Hid (Sl v5 5 B m (JB ql)) := by rw [hv5]; exact ((HQ_4.out).far (p := ⟨v2.heap.size, 0, none⟩) (fun hn a ha => by have := HQ_lt.out hn a ha; show a.block ≠ v2.heap.size; omega) _).far (p := ⟨v2.heap.size, 1, none⟩) (fun hn a ha => by have := HQ_lt.out hn a ha; show a.block ≠ v2.heap.size; omega) _
  have Ha_5 : Hid (Blk v5 w.heap.size 29 #[.int .i64 i0, .int .i64 t0, .slice A n c, .slice B m d, .int .i64 l0, .int .i64 l1, .int .i64 l2]) := by rw [hv5]; exact ((Ha_4.out).far (p := ⟨v2.heap.size, 0, none⟩) (show w.heap.size ≠ v2.heap.size by omega) _).far (p := ⟨v2.heap.size, 1, none⟩) (show w.heap.size ≠ v2.heap.size by omega) _
  have Hb_5 : Hid (Blk v5 g1 49 #[.int .i64 ex, .int .i64 et, .int .i64 ec, .int .i64 es, .int .i64 2, .int .i64 ea, .int .i64 eb, .int .i64 eg, .int .i64 eh]) := by rw [hv5]; exact ((Hb_4.out).far (p := ⟨v2.heap.size, 0, none⟩) (show g1 ≠ v2.heap.size by omega) _).far (p := ⟨v2.heap.size, 1, none⟩) (show g1 ≠ v2.heap.size by omega) _
  have Hr_5 : Hid (Blk v5 g2 29 #[.int .i64 0, .int .i64 0, .slice none 0 0, .slice none 0 0, .int .i64 0, .int .i64 0, .int .i64 0]) := by rw [hv5]; exact ((Hr_4.out).far (p := ⟨v2.heap.size, 0, none⟩) (show g2 ≠ v2.heap.size by omega) _).far (p := ⟨v2.heap.size, 1, none⟩) (show g2 ≠ v2.heap.size by omega) _
  have Hx_5 : Hid (Row v5 v1.heap.size 82 2 A5 n c5 (PR pl)) := by rw [hv5]; exact ((Hx_4.out).far (p := ⟨v2.heap.size, 0, none⟩) (fun a ha => by have := Lx.out a ha; show a.block ≠ v2.heap.size; omega) _).far (p := ⟨v2.heap.size, 1, none⟩) (fun a ha => by have := Lx.out a ha; show a.block ≠ v2.heap.size; omega) _
  have Hy_5 : Hid (Row v5 v1.heap.size 70 5 B5 m d5 (JB ql)) := by rw [hv5]; exact ((Hy_4.out).far (p := ⟨v2.heap.size, 0, none⟩) (fun a ha => by have := Ly.out a ha; show a.block ≠ v2.heap.size; omega) _).far (p := ⟨v2.heap.size, 1, none⟩) (fun a ha => by have := Ly.out a ha; show a.block ≠ v2.heap.size; omega) _
  have Hz_5 : Hid (Blk v5 v2.heap.size 29 #[.int .i64 ex, .int .i64 et, .slice A5 n c5, .slice B5 m d5, .int .i64 l0, .int .i64 l1, .int .i64 l2]) := by rw [hv5]; exact ((Hz_4.out).set_ 0 _).set_ 1 _
  clear lt_a r_a0 r_a1 r_a2 r_a3 r_a4 r_a5 r_a6 lt_b r_b0 r_b1 r_b2 r_b3 r_b4 r_b5 r_b6 r_b7 r_b8 lt_r r_r0 r_r1 r_r2 r_r3 r_r4 r_r5 r_r6 z_r0 z_r1 z_r2 z_r3 z_r4 z_r5 z_r6 lt_z r_z0 r_z1 r_z2 r_z3 r_z4 r_z5 r_z6 z_z0 z_z1 z_z2 z_z3 z_z4 z_z5 z_z6
  clear hv5 HP_4 HQ_4 Ha_4 Hb_4 Hr_4 Hx_4 Hy_4 Hz_4
  have lt_a := Ha_5.out.lt
  obtain ⟨r_a0, r_a1, r_a2, r_a3, r_a4, r_a5, r_a6⟩ := bc7 Ha_5.out
  have lt_b := Hb_5.out.lt
  obtain ⟨r_b0, r_b1, r_b2, r_b3, r_b4, r_b5, r_b6, r_b7, r_b8⟩ := bc9 Hb_5.out
  have lt_r := Hr_5.out.lt
  obtain ⟨r_r0, r_r1, r_r2, r_r3, r_r4, r_r5, r_r6⟩ := bc7 Hr_5.out
  obtain ⟨z_r0, z_r1, z_r2, z_r3, z_r4, z_r5, z_r6⟩ := bf7 Hr_5.out
  have lt_z := Hz_5.out.lt
  obtain ⟨r_z0, r_z1, r_z2, r_z3, r_z4, r_z5, r_z6⟩ := bc7 Hz_5.out
  obtain ⟨z_z0, z_z1, z_z2, z_z3, z_z4, z_z5, z_z6⟩ := bf7 Hz_5.out
  have cc := specCutOutR_any A n c pl ea v5 HP_5.out hL.out hn
  rw [hv.out] at cc
  replace cc := cc.mono (fun _ _ h => Lib.hid h)
  have HX : ∀ e w1, RetRowB v5 82 2 (p2, ok).1.length (PR (p2, ok).1) (p2, ok).2 e w1 → RetRowB v5 82 2 k2 (PR p2) ok e w1 := fun e w1 h => by
    have := hk2.out
    subst this
    exact h
  refine cc.mono ?_
  rintro e v6 hx_
  obtain ⟨A6, c6, rfl, R7, b6⟩ := HX _ _ hx_.out
  clear HX hx_ cc
  have Mu := Lib.hid (show v2.heap.size < v5.heap.size from by have := Hz_5.out.lt; exact this)
  have f6 := bthen f5 b6
  have z6 := b6.size
  have HP_6 := Lib.hid (HP_5.out.below b6)
  have HQ_6 := Lib.hid (HQ_5.out.below b6)
  have Ha_6 := Lib.hid (Ha_5.out.below b6)
  have Hb_6 := Lib.hid (Hb_5.out.below b6)
  have Hr_6 := Lib.hid (Hr_5.out.below b6)
  have Hx_6 := Lib.hid (Hx_5.out.below b6)
  have Hy_6 := Lib.hid (Hy_5.out.below b6)
  have Hz_6 := Lib.hid (Hz_5.out.below b6)
  clear lt_a r_a0 r_a1 r_a2 r_a3 r_a4 r_a5 r_a6 lt_b r_b0 r_b1 r_b2 r_b3 r_b4 r_b5 r_b6 r_b7 r_b8 lt_r r_r0 r_r1 r_r2 r_r3 r_r4 r_r5 r_r6 z_r0 z_r1 z_r2 z_r3 z_r4 z_r5 z_r6 lt_z r_z0 r_z1 r_z2 r_z3 r_z4 r_z5 r_z6 z_z0 z_z1 z_z2 z_z3 z_z4 z_z5 z_z6
  clear HP_5 HQ_5 Ha_5 Hb_5 Hr_5 Hx_5 Hy_5 Hz_5
  have Hu_6 := Lib.hid R7
  clear R7
  have lt_a := Ha_6.out.lt
  obtain ⟨r_a0, r_a1, r_a2, r_a3, r_a4, r_a5, r_a6⟩ := bc7 Ha_6.out
  have lt_b := Hb_6.out.lt
  obtain ⟨r_b0, r_b1, r_b2, r_b3, r_b4, r_b5, r_b6, r_b7, r_b8⟩ := bc9 Hb_6.out
  have lt_r := Hr_6.out.lt
  obtain ⟨r_r0, r_r1, r_r2, r_r3, r_r4, r_r5, r_r6⟩ := bc7 Hr_6.out
  obtain ⟨z_r0, z_r1, z_r2, z_r3, z_r4, z_r5, z_r6⟩ := bf7 Hr_6.out
  have lt_z := Hz_6.out.lt
  obtain ⟨r_z0, r_z1, r_z2, r_z3, r_z4, r_z5, r_z6⟩ := bc7 Hz_6.out
  obtain ⟨z_z0, z_z1, z_z2, z_z3, z_z4, z_z5, z_z6⟩ := bf7 Hz_6.out
  have hap2 : ∀ a b, A6 = some a → B5 = some b → a.block ≠ b.block := fun a b ha hb => by
    have h1 := Ly.out b hb
    have h2 := Hu_6.out.ge a ha
    omega
  have HAP2 := Lib.hid hap2
  clear hap2
  go_wp21
  refine bodyPost_ret (v := .tuple #[.agg #[.int .i64 ex, .int .i64 et, .slice A6 k2 c6, .slice B5 m d5, .int .i64 l0, .int .i64 l1, .int .i64 l2], .bool true]) (by simp [results, Try.results17, go_sem, *]) rfl ?_
  have nu : ∀ a, A6 = some a → a.block ≠ g2 := fun a ha => by have := Hu_6.out.ge a ha; omega
  have nzu : ∀ a, A6 = some a → a.block ≠ v2.heap.size := fun a ha => by have := Hu_6.out.ge a ha; have h9 := Mu.out; omega
  have ny : ∀ a, B5 = some a → a.block ≠ g2 := fun a ha => by have := Hy_6.out.ge a ha; omega
  have nzy : ∀ a, B5 = some a → a.block ≠ v2.heap.size := fun a ha => by have := Ly.out a ha; omega
  exact RetStateV.mk hk2.out hR.out (row_far7 (((Hu_6.out).far (p := ⟨v2.heap.size, 2, none⟩) nzu _).mono (by omega)) nu _ _ _ _ _ _ _) (row_far7 (((Hy_6.out).far (p := ⟨v2.heap.size, 2, none⟩) nzy _).mono (by omega)) ny _ _ _ _ _ _ _) HAP2.out (by (repeat' (first | (with_reducible exact Below.refl _ _) | (with_reducible assumption) | (with_reducible refine Below.alloc ?_ ?_ _) | (with_reducible refine Below.drew ?_) | (with_reducible refine Below.setCell ?_ ?_ _) | (with_reducible refine bstep (by assumption) ?_ ?_) | (with_reducible exact Nat.le_refl _) | omega | (simp [*]; done) | (simp [*]; omega))))
set_option maxRecDepth 100000 in
set_option maxHeartbeats 4000000 in
theorem specApp_3 (A : Option Addr) (n c : Nat) (B : Option Addr) (m d : Nat) (i0 t0 l0 l1 l2 : Int) (pl : List Pr) (ql : List Jb) (ex et ec es ea eb eg eh : Int) (w : World) (hP : Sl w 2 A n (PR pl)) (hQ : Sl w 5 B m (JB ql)) (hl : pl.length = n) (hr : ql.length = m) (hn : n ≤ maxLen) (hm : m ≤ maxLen) (hA : A = none → n = 0 ∧ c = 0) (hB : B = none → m = 0 ∧ d = 0) (hS : Hid (stateB i0 t0 l0 l1 l2 pl ql = true)) (hn10 : n ≤ 10) (hm8 : m ≤ 8) (hx : Hid (effI i0 t0 l0 l1 l2 pl ql ex et ec es 3 ea eb eg eh = 3)) (q2 : List Jb) (ok : Bool) (k2 : Nat) (hv : Hid (addR ql ⟨ea, eb, eg, eh, 0⟩ = (q2, ok))) (hk2 : Hid (q2.length = k2)) :
    Calls Try.prog 17 #[.agg #[.int .i64 i0, .int .i64 t0, .slice A n c, .slice B m d, .int .i64 l0, .int .i64 l1, .int .i64 l2], .agg #[.int .i64 ex, .int .i64 et, .int .i64 ec, .int .i64 es, .int .i64 3, .int .i64 ea, .int .i64 eb, .int .i64 eg, .int .i64 eh]] w (RetStateV w ex et l0 l1 l2 pl.length (PR pl) q2.length (JB q2) (.bool true)) := by
  have HP := Lib.hid hP
  have HQ := Lib.hid hQ
  have HA := Lib.hid hA
  have HB := Lib.hid hB
  have hL := Lib.hid hl
  have hR := Lib.hid hr
  clear hP hQ hA hB hl hr
  go_enter Try.func17, Try.ntmps17
  go_wp2_with fail
  refine calls_named ?_
  rintro v0 hv0
  have f0 : Below w.heap.size w v0 := by rw [hv0]; (repeat' (first | (with_reducible exact Below.refl _ _) | (with_reducible assumption) | (with_reducible refine Below.alloc ?_ ?_ _) | (with_reducible refine Below.drew ?_) | (with_reducible refine Below.setCell ?_ ?_ _) | (with_reducible refine bstep (by assumption) ?_ ?_) | (with_reducible exact Nat.le_refl _) | omega | (simp [*]; done) | (simp [*]; omega)))
  have z0 : w.heap.size + 3 ≤ v0.heap.size := by rw [hv0]; simp [size_set]
  have HP_0 := Lib.hid (HP.out.below f0)
  have HP_lt := Lib.hid (fun hn => HP.out.lt hn)
  have HQ_0 := Lib.hid (HQ.out.below f0)
  have HQ_lt := Lib.hid (fun hn => HQ.out.lt hn)
  have Ha_0 : Hid (Blk v0 w.heap.size 29 #[.int .i64 i0, .int .i64 t0, .slice A n c, .slice B m d, .int .i64 l0, .int .i64 l1, .int .i64 l2]) := by rw [hv0]; exact ((Blk.new_at _ _ _ _ (by simp)).alloc _).alloc _
  have Hb_0 : Hid (Blk v0 (w.heap.size + 1) 49 #[.int .i64 ex, .int .i64 et, .int .i64 ec, .int .i64 es, .int .i64 3, .int .i64 ea, .int .i64 eb, .int .i64 eg, .int .i64 eh]) := by rw [hv0]; exact (Blk.new_at _ _ _ _ (by simp)).alloc _
  have Hr_0 : Hid (Blk v0 (w.heap.size + 1 + 1) 29 #[.int .i64 0, .int .i64 0, .slice none 0 0, .slice none 0 0, .int .i64 0, .int .i64 0, .int .i64 0]) := by rw [hv0]; exact Blk.new_at _ _ _ _ (by simp)
  clear hv0
  generalize hg2 : w.heap.size + 1 + 1 = g2 at *
  generalize hg1 : w.heap.size + 1 = g1 at *
  have lg1 : w.heap.size < g1 := by omega
  have lg2 : g1 < g2 := by omega
  have lgz : g2 < v0.heap.size := by omega
  have nq1x0 : ¬ g1 = w.heap.size := by omega
  have nq0x1 : ¬ w.heap.size = g1 := by omega
  have nq2x0 : ¬ g2 = w.heap.size := by omega
  have nq0x2 : ¬ w.heap.size = g2 := by omega
  have nq2x1 : ¬ g2 = g1 := by omega
  have nq1x2 : ¬ g1 = g2 := by omega
  clear hg1 hg2
  have lt_a := Ha_0.out.lt
  obtain ⟨r_a0, r_a1, r_a2, r_a3, r_a4, r_a5, r_a6⟩ := bc7 Ha_0.out
  have lt_b := Hb_0.out.lt
  obtain ⟨r_b0, r_b1, r_b2, r_b3, r_b4, r_b5, r_b6, r_b7, r_b8⟩ := bc9 Hb_0.out
  have lt_r := Hr_0.out.lt
  obtain ⟨r_r0, r_r1, r_r2, r_r3, r_r4, r_r5, r_r6⟩ := bc7 Hr_0.out
  obtain ⟨z_r0, z_r1, z_r2, z_r3, z_r4, z_r5, z_r6⟩ := bf7 Hr_0.out
  have cc := specStateOk_any A n c B m d i0 t0 l0 l1 l2 pl ql v0 HP_0.out HQ_0.out hL.out hR.out hn hm
  rw [hS.out] at cc
  refine (cc).mono ?_
  rintro e v1 ⟨rfl, b1⟩
  have f1 := bthen f0 b1
  have z1 := b1.size
  have HP_1 := Lib.hid (HP_0.out.below b1)
  have HQ_1 := Lib.hid (HQ_0.out.below b1)
  have Ha_1 := Lib.hid (Ha_0.out.below b1)
  have Hb_1 := Lib.hid (Hb_0.out.below b1)
  have Hr_1 := Lib.hid (Hr_0.out.below b1)
  clear lt_a r_a0 r_a1 r_a2 r_a3 r_a4 r_a5 r_a6 lt_b r_b0 r_b1 r_b2 r_b3 r_b4 r_b5 r_b6 r_b7 r_b8 lt_r r_r0 r_r1 r_r2 r_r3 r_r4 r_r5 r_r6 z_r0 z_r1 z_r2 z_r3 z_r4 z_r5 z_r6
  clear HP_0 HQ_0 Ha_0 Hb_0 Hr_0
  clear cc
  have lt_a := Ha_1.out.lt
  obtain ⟨r_a0, r_a1, r_a2, r_a3, r_a4, r_a5, r_a6⟩ := bc7 Ha_1.out
  have lt_b := Hb_1.out.lt
  obtain ⟨r_b0, r_b1, r_b2, r_b3, r_b4, r_b5, r_b6, r_b7, r_b8⟩ := bc9 Hb_1.out
  have lt_r := Hr_1.out.lt
  obtain ⟨r_r0, r_r1, r_r2, r_r3, r_r4, r_r5, r_r6⟩ := bc7 Hr_1.out
  obtain ⟨z_r0, z_r1, z_r2, z_r3, z_r4, z_r5, z_r6⟩ := bf7 Hr_1.out
  go_wp2_with fail
  refine (l17Copy_any A n c B m d i0 t0 l0 l1 l2 pl ql _ HP_1.out HQ_1.out hL.out hR.out (by omega) (by omega) HA.out HB.out).mono ?_
  rintro e v2 ⟨A5, c5, B5, d5, rfl, R5, R6, hap, b2⟩
  have HAP := Lib.hid hap
  have Lx := Lib.hid R5.lt
  have Ly := Lib.hid R6.lt
  clear hap
  have f2 := bthen f1 b2
  have z2 := b2.size
  have HP_2 := Lib.hid (HP_1.out.below b2)
  have HQ_2 := Lib.hid (HQ_1.out.below b2)
  have Ha_2 := Lib.hid (Ha_1.out.below b2)
  have Hb_2 := Lib.hid (Hb_1.out.below b2)
  have Hr_2 := Lib.hid (Hr_1.out.below b2)
  clear lt_a r_a0 r_a1 r_a2 r_a3 r_a4 r_a5 r_a6 lt_b r_b0 r_b1 r_b2 r_b3 r_b4 r_b5 r_b6 r_b7 r_b8 lt_r r_r0 r_r1 r_r2 r_r3 r_r4 r_r5 r_r6 z_r0 z_r1 z_r2 z_r3 z_r4 z_r5 z_r6
  clear HP_1 HQ_1 Ha_1 Hb_1 Hr_1
  have Hx_2 := Lib.hid R5
  clear R5
  have Hy_2 := Lib.hid R6
  clear R6
  have lt_a := Ha_2.out.lt
  obtain ⟨r_a0, r_a1, r_a2, r_a3, r_a4, r_a5, r_a6⟩ := bc7 Ha_2.out
  have lt_b := Hb_2.out.lt
  obtain ⟨r_b0, r_b1, r_b2, r_b3, r_b4, r_b5, r_b6, r_b7, r_b8⟩ := bc9 Hb_2.out
  have lt_r := Hr_2.out.lt
  obtain ⟨r_r0, r_r1, r_r2, r_r3, r_r4, r_r5, r_r6⟩ := bc7 Hr_2.out
  obtain ⟨z_r0, z_r1, z_r2, z_r3, z_r4, z_r5, z_r6⟩ := bf7 Hr_2.out
  go_wp2_with fail
  refine calls_named ?_
  rintro v3 hv3
  have f3 : Below w.heap.size w v3 := by rw [hv3]; (repeat' (first | (with_reducible exact Below.refl _ _) | (with_reducible assumption) | (with_reducible refine Below.alloc ?_ ?_ _) | (with_reducible refine Below.drew ?_) | (with_reducible refine Below.setCell ?_ ?_ _) | (with_reducible refine bstep (by assumption) ?_ ?_) | (with_reducible exact Nat.le_refl _) | omega | (simp [*]; done) | (simp [*]; omega)))
  have z3 : v2.heap.size + 1 ≤ v3.heap.size := by rw [hv3]; simp [size_set]
  have HP_3 : Hid (Sl v3 2 A n (PR pl)) := by rw [hv3]; exact (HP_2.out).alloc _
  have HQ_3 : Hid (Sl v3 5 B m (JB ql)) := by rw [hv3]; exact (HQ_2.out).alloc _
  have Ha_3 : Hid (Blk v3 w.heap.size 29 #[.int .i64 i0, .int .i64 t0, .slice A n c, .slice B m d, .int .i64 l0, .int .i64 l1, .int .i64 l2]) := by rw [hv3]; exact (Ha_2.out).alloc _
  have Hb_3 : Hid (Blk v3 g1 49 #[.int .i64 ex, .int .i64 et, .int .i64 ec, .int .i64 es, .int .i64 3, .int .i64 ea, .int .i64 eb, .int .i64 eg, .int .i64 eh]) := by rw [hv3]; exact (Hb_2.out).alloc _
  have Hr_3 : Hid (Blk v3 g2 29 #[.int .i64 0, .int .i64 0, .slice none 0 0, .slice none 0 0, .int .i64 0, .int .i64 0, .int .i64 0]) := by rw [hv3]; exact (Hr_2.out).alloc _
  have Hx_3 : Hid (Row v3 v1.heap.size 82 2 A5 n c5 (PR pl)) := by rw [hv3]; exact (Hx_2.out).alloc _
  have Hy_3 : Hid (Row v3 v1.heap.size 70 5 B5 m d5 (JB ql)) := by rw [hv3]; exact (Hy_2.out).alloc _
  have Hz_3 : Hid (Blk v3 v2.heap.size 29 #[.int .i64 i0, .int .i64 t0, .slice A5 n c5, .slice B5 m d5, .int .i64 l0, .int .i64 l1, .int .i64 l2]) := by rw [hv3]; exact (Blk.new_at _ _ _ _ (by simp [size_set]))
  clear lt_a r_a0 r_a1 r_a2 r_a3 r_a4 r_a5 r_a6 lt_b r_b0 r_b1 r_b2 r_b3 r_b4 r_b5 r_b6 r_b7 r_b8 lt_r r_r0 r_r1 r_r2 r_r3 r_r4 r_r5 r_r6 z_r0 z_r1 z_r2 z_r3 z_r4 z_r5 z_r6
  clear hv3 HP_2 HQ_2 Ha_2 Hb_2 Hr_2 Hx_2 Hy_2
  have lt_a := Ha_3.out.lt
  obtain ⟨r_a0, r_a1, r_a2, r_a3, r_a4, r_a5, r_a6⟩ := bc7 Ha_3.out
  have lt_b := Hb_3.out.lt
  obtain ⟨r_b0, r_b1, r_b2, r_b3, r_b4, r_b5, r_b6, r_b7, r_b8⟩ := bc9 Hb_3.out
  have lt_r := Hr_3.out.lt
  obtain ⟨r_r0, r_r1, r_r2, r_r3, r_r4, r_r5, r_r6⟩ := bc7 Hr_3.out
  obtain ⟨z_r0, z_r1, z_r2, z_r3, z_r4, z_r5, z_r6⟩ := bf7 Hr_3.out
  have lt_z := Hz_3.out.lt
  obtain ⟨r_z0, r_z1, r_z2, r_z3, r_z4, r_z5, r_z6⟩ := bc7 Hz_3.out
  obtain ⟨z_z0, z_z1, z_z2, z_z3, z_z4, z_z5, z_z6⟩ := bf7 Hz_3.out
  have cc := specEffectOf_any A n c B m d i0 t0 l0 l1 l2 pl ql ex et ec es 3 ea eb eg eh v3 HP_3.out HQ_3.out hL.out hR.out hn hm HA.out HB.out _ hx.out
  refine (cc).mono ?_
  rintro e v4 ⟨rfl, b4⟩
  have f4 := bthen f3 b4
  have z4 := b4.size
  have HP_4 := Lib.hid (HP_3.out.below b4)
  have HQ_4 := Lib.hid (HQ_3.out.below b4)
  have Ha_4 := Lib.hid (Ha_3.out.below b4)
  have Hb_4 := Lib.hid (Hb_3.out.below b4)
  have Hr_4 := Lib.hid (Hr_3.out.below b4)
  have Hx_4 := Lib.hid (Hx_3.out.below b4)
  have Hy_4 := Lib.hid (Hy_3.out.below b4)
  have Hz_4 := Lib.hid (Hz_3.out.below b4)
  clear lt_a r_a0 r_a1 r_a2 r_a3 r_a4 r_a5 r_a6 lt_b r_b0 r_b1 r_b2 r_b3 r_b4 r_b5 r_b6 r_b7 r_b8 lt_r r_r0 r_r1 r_r2 r_r3 r_r4 r_r5 r_r6 z_r0 z_r1 z_r2 z_r3 z_r4 z_r5 z_r6 lt_z r_z0 r_z1 r_z2 r_z3 r_z4 r_z5 r_z6 z_z0 z_z1 z_z2 z_z3 z_z4 z_z5 z_z6
  clear HP_3 HQ_3 Ha_3 Hb_3 Hr_3 Hx_3 Hy_3 Hz_3
  clear cc
  have lt_a := Ha_4.out.lt
  obtain ⟨r_a0, r_a1, r_a2, r_a3, r_a4, r_a5, r_a6⟩ := bc7 Ha_4.out
  have lt_b := Hb_4.out.lt
  obtain ⟨r_b0, r_b1, r_b2, r_b3, r_b4, r_b5, r_b6, r_b7, r_b8⟩ := bc9 Hb_4.out
  have lt_r := Hr_4.out.lt
  obtain ⟨r_r0, r_r1, r_r2, r_r3, r_r4, r_r5, r_r6⟩ := bc7 Hr_4.out
  obtain ⟨z_r0, z_r1, z_r2, z_r3, z_r4, z_r5, z_r6⟩ := bf7 Hr_4.out
  have lt_z := Hz_4.out.lt
  obtain ⟨r_z0, r_z1, r_z2, r_z3, r_z4, r_z5, r_z6⟩ := bc7 Hz_4.out
  obtain ⟨z_z0, z_z1, z_z2, z_z3, z_z4, z_z5, z_z6⟩ := bf7 Hz_4.out
  go_upto_region 15 with fail
  obtain ⟨v5, hv5⟩ : ∃ x : World, x = ((v4.setCell ⟨v2.heap.size, 0, none⟩ (.int .i64 ex)).setCell ⟨v2.heap.size, 1, none⟩ (.int .i64 et)) := ⟨_, rfl⟩
  rw [← hv5]
  have f5 : Below w.heap.size w v5 := by rw [hv5]; (repeat' (first | (with_reducible exact Below.refl _ _) | (with_reducible assumption) | (with_reducible refine Below.alloc ?_ ?_ _) | (with_reducible refine Below.drew ?_) | (with_reducible refine Below.setCell ?_ ?_ _) | (with_reducible refine bstep (by assumption) ?_ ?_) | (with_reducible exact Nat.le_refl _) | omega | (simp [*]; done) | (simp [*]; omega)))
  have z5 : v4.heap.size + 0 ≤ v5.heap.size := by rw [hv5]; simp [size_set]
  have HP_5 : Hid (Sl v5 2 A n (PR pl)) := by rw [hv5]; exact ((HP_4.out).far (p := ⟨v2.heap.size, 0, none⟩) (fun hn a ha => by have := HP_lt.out hn a ha; show a.block ≠ v2.heap.size; omega) _).far (p := ⟨v2.heap.size, 1, none⟩) (fun hn a ha => by have := HP_lt.out hn a ha; show a.block ≠ v2.heap.size; omega) _
  have HQ_5 : Hid (Sl v5 5 B m (JB ql)) := by rw [hv5]; exact ((HQ_4.out).far (p := ⟨v2.heap.size, 0, none⟩) (fun hn a ha => by have := HQ_lt.out hn a ha; show a.block ≠ v2.heap.size; omega) _).far (p := ⟨v2.heap.size, 1, none⟩) (fun hn a ha => by have := HQ_lt.out hn a ha; show a.block ≠ v2.heap.size; omega) _
  have Ha_5 : Hid (Blk v5 w.heap.size 29 #[.int .i64 i0, .int .i64 t0, .slice A n c, .slice B m d, .int .i64 l0, .int .i64 l1, .int .i64 l2]) := by rw [hv5]; exact ((Ha_4.out).far (p := ⟨v2.heap.size, 0, none⟩) (show w.heap.size ≠ v2.heap.size by omega) _).far (p := ⟨v2.heap.size, 1, none⟩) (show w.heap.size ≠ v2.heap.size by omega) _
  have Hb_5 : Hid (Blk v5 g1 49 #[.int .i64 ex, .int .i64 et, .int .i64 ec, .int .i64 es, .int .i64 3, .int .i64 ea, .int .i64 eb, .int .i64 eg, .int .i64 eh]) := by rw [hv5]; exact ((Hb_4.out).far (p := ⟨v2.heap.size, 0, none⟩) (show g1 ≠ v2.heap.size by omega) _).far (p := ⟨v2.heap.size, 1, none⟩) (show g1 ≠ v2.heap.size by omega) _
  have Hr_5 : Hid (Blk v5 g2 29 #[.int .i64 0, .int .i64 0, .slice none 0 0, .slice none 0 0, .int .i64 0, .int .i64 0, .int .i64 0]) := by rw [hv5]; exact ((Hr_4.out).far (p := ⟨v2.heap.size, 0, none⟩) (show g2 ≠ v2.heap.size by omega) _).far (p := ⟨v2.heap.size, 1, none⟩) (show g2 ≠ v2.heap.size by omega) _
  have Hx_5 : Hid (Row v5 v1.heap.size 82 2 A5 n c5 (PR pl)) := by rw [hv5]; exact ((Hx_4.out).far (p := ⟨v2.heap.size, 0, none⟩) (fun a ha => by have := Lx.out a ha; show a.block ≠ v2.heap.size; omega) _).far (p := ⟨v2.heap.size, 1, none⟩) (fun a ha => by have := Lx.out a ha; show a.block ≠ v2.heap.size; omega) _
  have Hy_5 : Hid (Row v5 v1.heap.size 70 5 B5 m d5 (JB ql)) := by rw [hv5]; exact ((Hy_4.out).far (p := ⟨v2.heap.size, 0, none⟩) (fun a ha => by have := Ly.out a ha; show a.block ≠ v2.heap.size; omega) _).far (p := ⟨v2.heap.size, 1, none⟩) (fun a ha => by have := Ly.out a ha; show a.block ≠ v2.heap.size; omega) _
  have Hz_5 : Hid (Blk v5 v2.heap.size 29 #[.int .i64 ex, .int .i64 et, .slice A5 n c5, .slice B5 m d5, .int .i64 l0, .int .i64 l1, .int .i64 l2]) := by rw [hv5]; exact ((Hz_4.out).set_ 0 _).set_ 1 _
  clear lt_a r_a0 r_a1 r_a2 r_a3 r_a4 r_a5 r_a6 lt_b r_b0 r_b1 r_b2 r_b3 r_b4 r_b5 r_b6 r_b7 r_b8 lt_r r_r0 r_r1 r_r2 r_r3 r_r4 r_r5 r_r6 z_r0 z_r1 z_r2 z_r3 z_r4 z_r5 z_r6 lt_z r_z0 r_z1 r_z2 r_z3 r_z4 r_z5 r_z6 z_z0 z_z1 z_z2 z_z3 z_z4 z_z5 z_z6
  clear hv5 HP_4 HQ_4 Ha_4 Hb_4 Hr_4 Hx_4 Hy_4 Hz_4
  have lt_a := Ha_5.out.lt
  obtain ⟨r_a0, r_a1, r_a2, r_a3, r_a4, r_a5, r_a6⟩ := bc7 Ha_5.out
  have lt_b := Hb_5.out.lt
  obtain ⟨r_b0, r_b1, r_b2, r_b3, r_b4, r_b5, r_b6, r_b7, r_b8⟩ := bc9 Hb_5.out
  have lt_r := Hr_5.out.lt
  obtain ⟨r_r0, r_r1, r_r2, r_r3, r_r4, r_r5, r_r6⟩ := bc7 Hr_5.out
  obtain ⟨z_r0, z_r1, z_r2, z_r3, z_r4, z_r5, z_r6⟩ := bf7 Hr_5.out
  have lt_z := Hz_5.out.lt
  obtain ⟨r_z0, r_z1, r_z2, r_z3, r_z4, r_z5, r_z6⟩ := bc7 Hz_5.out
  obtain ⟨z_z0, z_z1, z_z2, z_z3, z_z4, z_z5, z_z6⟩ := bf7 Hz_5.out
  have hS0 : ∀ b o, b < v5.heap.size → b ≠ v2.heap.size → v5.cell? ⟨b, o, none⟩ = v5.cell? ⟨b, o, none⟩ := fun b o hb hk => rfl
  have nzb : ¬ g1 = v2.heap.size := by omega
  have nza : ¬ w.heap.size = v2.heap.size := by omega
  have cc : ∀ u1, Below v5.heap.size v5 u1 → Calls Try.prog 47 #[.slice B m d, .agg #[.int .i64 ea, .int .i64 eb, .int .i64 eg, .int .i64 eh, .int .i64 0]] u1 (RetRowB u1 70 5 k2 (JB q2) ok) := fun u1 hb => by
    have c1 := addedRS_any B m d ql ea eb eg eh 0 u1 (HQ_5.out.below hb) hR.out hm HB.out
    rw [hv.out] at c1
    have := hk2.out
    subst this
    exact c1
  go_region_held_law (fun w' => ∀ b o, b < v5.heap.size → b ≠ v2.heap.size → w'.cell? ⟨b, o, none⟩ = v5.cell? ⟨b, o, none⟩) (repeat' (first | with_reducible assumption | with_reducible exact hS0 | with_reducible refine hn_drew ?_ | with_reducible refine hn_set ?_ _ _)) (first | (go_at_call 48; refine (l17Job_any 3 ea eb eg eh _).mono ?_; rintro e u1 ⟨rfl, b1_⟩; have E1 : Below v5.heap.size v5 u1 := (by first | with_reducible exact b1_ | with_reducible exact tb_dr b1_); have hS1 : ∀ b o, b < v5.heap.size → b ≠ v2.heap.size → u1.cell? ⟨b, o, none⟩ = v5.cell? ⟨b, o, none⟩ := fun b o hb hk => E1.cell (p := ⟨b, o, none⟩) hb) | (go_at_call 47; refine (cc _ E1).mono ?_; rintro e u2 ⟨A6, c6, rfl, R7, b2_⟩; have E2 := bthen E1 b2_; have hS2 : ∀ b o, b < v5.heap.size → b ≠ v2.heap.size → u2.cell? ⟨b, o, none⟩ = v5.cell? ⟨b, o, none⟩ := fun b o hb hk => E2.cell (p := ⟨b, o, none⟩) hb; have Kz := Hz_5.out.below E2; have Kr := Hr_5.out.below E2; have kzb0 := Kz.cell 0; have kzf0 := Kz.frozen 0; have kzb1 := Kz.cell 1; have kzf1 := Kz.frozen 1; have kzb2 := Kz.cell 2; have kzf2 := Kz.frozen 2; have kzb3 := Kz.cell 3; have kzf3 := Kz.frozen 3; have kzb4 := Kz.cell 4; have kzf4 := Kz.frozen 4; have kzb5 := Kz.cell 5; have kzf5 := Kz.frozen 5; have kzb6 := Kz.cell 6; have kzf6 := Kz.frozen 6; have kzl := Kz.lt; have krb0 := Kr.cell 0; have krf0 := Kr.frozen 0; have krb1 := Kr.cell 1; have krf1 := Kr.frozen 1; have krb2 := Kr.cell 2; have krf2 := Kr.frozen 2; have krb3 := Kr.cell 3; have krf3 := Kr.frozen 3; have krb4 := Kr.cell 4; have krf4 := Kr.frozen 4; have krb5 := Kr.cell 5; have krf5 := Kr.frozen 5; have krb6 := Kr.cell 6; have krf6 := Kr.frozen 6; have krl := Kr.lt))
  all_goals
    go_wp21
    refine bodyPost_ret (v := .tuple #[.agg #[.int .i64 ex, .int .i64 et, .slice A5 n c5, .slice A6 k2 c6, .int .i64 l0, .int .i64 l1, .int .i64 l2], .bool true]) (by simp [results, Try.results17, go_sem, *]) rfl ?_
    have R8 := R7.mono (show w.heap.size ≤ _ from Nat.le_trans f5.size E1.size)
    have X8 := Hx_5.out.below E2
    have hs1 := E1.size
    have nx1 : ∀ a, A5 = some a → a.block ≠ g2 := fun a ha => by have := Hx_5.out.ge a ha; omega
    have nx2 : ∀ a, A5 = some a → a.block ≠ v2.heap.size := fun a ha => by have := Lx.out a ha; omega
    have nu1 : ∀ a, A6 = some a → a.block ≠ g2 := fun a ha => by have := R7.ge a ha; omega
    have nu2 : ∀ a, A6 = some a → a.block ≠ v2.heap.size := fun a ha => by have := R7.ge a ha; omega
    exact RetStateV.mk hL.out hk2.out (row_far7 ((X8.far (p := ⟨v2.heap.size, 3, none⟩) nx2 _).mono (by omega)) nx1 _ _ _ _ _ _ _) (row_far7 (R8.far (p := ⟨v2.heap.size, 3, none⟩) nu2 _) nu1 _ _ _ _ _ _ _) (fun a b ha hb => by have h1 := Lx.out a ha; have h2 := R7.ge b hb; omega) (below_far7 ((bthen f5 E2).setCell (p := ⟨v2.heap.size, 3, none⟩) (show w.heap.size ≤ v2.heap.size by omega) _) (show w.heap.size ≤ g2 by omega) _ _ _ _ _ _ _)
set_option maxRecDepth 100000 in
set_option maxHeartbeats 4000000 in
theorem specApp_4 (A : Option Addr) (n c : Nat) (B : Option Addr) (m d : Nat) (i0 t0 l0 l1 l2 : Int) (pl : List Pr) (ql : List Jb) (ex et ec es ea eb eg eh : Int) (w : World) (hP : Sl w 2 A n (PR pl)) (hQ : Sl w 5 B m (JB ql)) (hl : pl.length = n) (hr : ql.length = m) (hn : n ≤ maxLen) (hm : m ≤ maxLen) (hA : A = none → n = 0 ∧ c = 0) (hB : B = none → m = 0 ∧ d = 0) (hS : Hid (stateB i0 t0 l0 l1 l2 pl ql = true)) (hn10 : n ≤ 10) (hm8 : m ≤ 8) (hx : Hid (effI i0 t0 l0 l1 l2 pl ql ex et ec es 4 ea eb eg eh = 4)) (p2 : List Pr) (q2 : List Jb) (o1 o2 jo : Bool) (n2 m2 : Nat) (ji jd jk jv jf : Int) (hj : Hid (jobAtR ql ea = (⟨ji, jd, jk, jv, jf⟩, jo))) (hq2 : Hid (firedR ql ea ex = (q2, o2))) (hp2 : Hid (putR pl jk jv = (p2, o1))) (hm2 : Hid (q2.length = m2)) (hn2 : Hid (p2.length = n2)) :
    Calls Try.prog 17 #[.agg #[.int .i64 i0, .int .i64 t0, .slice A n c, .slice B m d, .int .i64 l0, .int .i64 l1, .int .i64 l2], .agg #[.int .i64 ex, .int .i64 et, .int .i64 ec, .int .i64 es, .int .i64 4, .int .i64 ea, .int .i64 eb, .int .i64 eg, .int .i64 eh]] w (RetStateV w ex et l0 l1 l2 p2.length (PR p2) q2.length (JB q2) (.bool true)) := by
  have HP := Lib.hid hP
  have HQ := Lib.hid hQ
  have HA := Lib.hid hA
  have HB := Lib.hid hB
  have hL := Lib.hid hl
  have hR := Lib.hid hr
  clear hP hQ hA hB hl hr
  go_enter Try.func17, Try.ntmps17
  go_wp2_with fail
  refine calls_named ?_
  rintro v0 hv0
  have f0 : Below w.heap.size w v0 := by rw [hv0]; (repeat' (first | (with_reducible exact Below.refl _ _) | (with_reducible assumption) | (with_reducible refine Below.alloc ?_ ?_ _) | (with_reducible refine Below.drew ?_) | (with_reducible refine Below.setCell ?_ ?_ _) | (with_reducible refine bstep (by assumption) ?_ ?_) | (with_reducible exact Nat.le_refl _) | omega | (simp [*]; done) | (simp [*]; omega)))
  have z0 : w.heap.size + 3 ≤ v0.heap.size := by rw [hv0]; simp [size_set]
  have HP_0 := Lib.hid (HP.out.below f0)
  have HP_lt := Lib.hid (fun hn => HP.out.lt hn)
  have HQ_0 := Lib.hid (HQ.out.below f0)
  have HQ_lt := Lib.hid (fun hn => HQ.out.lt hn)
  have Ha_0 : Hid (Blk v0 w.heap.size 29 #[.int .i64 i0, .int .i64 t0, .slice A n c, .slice B m d, .int .i64 l0, .int .i64 l1, .int .i64 l2]) := by rw [hv0]; exact ((Blk.new_at _ _ _ _ (by simp)).alloc _).alloc _
  have Hb_0 : Hid (Blk v0 (w.heap.size + 1) 49 #[.int .i64 ex, .int .i64 et, .int .i64 ec, .int .i64 es, .int .i64 4, .int .i64 ea, .int .i64 eb, .int .i64 eg, .int .i64 eh]) := by rw [hv0]; exact (Blk.new_at _ _ _ _ (by simp)).alloc _
  have Hr_0 : Hid (Blk v0 (w.heap.size + 1 + 1) 29 #[.int .i64 0, .int .i64 0, .slice none 0 0, .slice none 0 0, .int .i64 0, .int .i64 0, .int .i64 0]) := by rw [hv0]; exact Blk.new_at _ _ _ _ (by simp)
  clear hv0
  generalize hg2 : w.heap.size + 1 + 1 = g2 at *
  generalize hg1 : w.heap.size + 1 = g1 at *
  have lg1 : w.heap.size < g1 := by omega
  have lg2 : g1 < g2 := by omega
  have lgz : g2 < v0.heap.size := by omega
  have nq1x0 : ¬ g1 = w.heap.size := by omega
  have nq0x1 : ¬ w.heap.size = g1 := by omega
  have nq2x0 : ¬ g2 = w.heap.size := by omega
  have nq0x2 : ¬ w.heap.size = g2 := by omega
  have nq2x1 : ¬ g2 = g1 := by omega
  have nq1x2 : ¬ g1 = g2 := by omega
  clear hg1 hg2
  have lt_a := Ha_0.out.lt
  obtain ⟨r_a0, r_a1, r_a2, r_a3, r_a4, r_a5, r_a6⟩ := bc7 Ha_0.out
  have lt_b := Hb_0.out.lt
  obtain ⟨r_b0, r_b1, r_b2, r_b3, r_b4, r_b5, r_b6, r_b7, r_b8⟩ := bc9 Hb_0.out
  have lt_r := Hr_0.out.lt
  obtain ⟨r_r0, r_r1, r_r2, r_r3, r_r4, r_r5, r_r6⟩ := bc7 Hr_0.out
  obtain ⟨z_r0, z_r1, z_r2, z_r3, z_r4, z_r5, z_r6⟩ := bf7 Hr_0.out
  have cc := specStateOk_any A n c B m d i0 t0 l0 l1 l2 pl ql v0 HP_0.out HQ_0.out hL.out hR.out hn hm
  rw [hS.out] at cc
  refine (cc).mono ?_
  rintro e v1 ⟨rfl, b1⟩
  have f1 := bthen f0 b1
  have z1 := b1.size
  have HP_1 := Lib.hid (HP_0.out.below b1)
  have HQ_1 := Lib.hid (HQ_0.out.below b1)
  have Ha_1 := Lib.hid (Ha_0.out.below b1)
  have Hb_1 := Lib.hid (Hb_0.out.below b1)
  have Hr_1 := Lib.hid (Hr_0.out.below b1)
  clear lt_a r_a0 r_a1 r_a2 r_a3 r_a4 r_a5 r_a6 lt_b r_b0 r_b1 r_b2 r_b3 r_b4 r_b5 r_b6 r_b7 r_b8 lt_r r_r0 r_r1 r_r2 r_r3 r_r4 r_r5 r_r6 z_r0 z_r1 z_r2 z_r3 z_r4 z_r5 z_r6
  clear HP_0 HQ_0 Ha_0 Hb_0 Hr_0
  clear cc
  have lt_a := Ha_1.out.lt
  obtain ⟨r_a0, r_a1, r_a2, r_a3, r_a4, r_a5, r_a6⟩ := bc7 Ha_1.out
  have lt_b := Hb_1.out.lt
  obtain ⟨r_b0, r_b1, r_b2, r_b3, r_b4, r_b5, r_b6, r_b7, r_b8⟩ := bc9 Hb_1.out
  have lt_r := Hr_1.out.lt
  obtain ⟨r_r0, r_r1, r_r2, r_r3, r_r4, r_r5, r_r6⟩ := bc7 Hr_1.out
  obtain ⟨z_r0, z_r1, z_r2, z_r3, z_r4, z_r5, z_r6⟩ := bf7 Hr_1.out
  go_wp2_with fail
  refine (l17Copy_any A n c B m d i0 t0 l0 l1 l2 pl ql _ HP_1.out HQ_1.out hL.out hR.out (by omega) (by omega) HA.out HB.out).mono ?_
  rintro e v2 ⟨A5, c5, B5, d5, rfl, R5, R6, hap, b2⟩
  have HAP := Lib.hid hap
  have Lx := Lib.hid R5.lt
  have Ly := Lib.hid R6.lt
  clear hap
  have f2 := bthen f1 b2
  have z2 := b2.size
  have HP_2 := Lib.hid (HP_1.out.below b2)
  have HQ_2 := Lib.hid (HQ_1.out.below b2)
  have Ha_2 := Lib.hid (Ha_1.out.below b2)
  have Hb_2 := Lib.hid (Hb_1.out.below b2)
  have Hr_2 := Lib.hid (Hr_1.out.below b2)
  clear lt_a r_a0 r_a1 r_a2 r_a3 r_a4 r_a5 r_a6 lt_b r_b0 r_b1 r_b2 r_b3 r_b4 r_b5 r_b6 r_b7 r_b8 lt_r r_r0 r_r1 r_r2 r_r3 r_r4 r_r5 r_r6 z_r0 z_r1 z_r2 z_r3 z_r4 z_r5 z_r6
  clear HP_1 HQ_1 Ha_1 Hb_1 Hr_1
  have Hx_2 := Lib.hid R5
  clear R5
  have Hy_2 := Lib.hid R6
  clear R6
  have lt_a := Ha_2.out.lt
  obtain ⟨r_a0, r_a1, r_a2, r_a3, r_a4, r_a5, r_a6⟩ := bc7 Ha_2.out
  have lt_b := Hb_2.out.lt
  obtain ⟨r_b0, r_b1, r_b2, r_b3, r_b4, r_b5, r_b6, r_b7, r_b8⟩ := bc9 Hb_2.out
  have lt_r := Hr_2.out.lt
  obtain ⟨r_r0, r_r1, r_r2, r_r3, r_r4, r_r5, r_r6⟩ := bc7 Hr_2.out
  obtain ⟨z_r0, z_r1, z_r2, z_r3, z_r4, z_r5, z_r6⟩ := bf7 Hr_2.out
  go_wp2_with fail
  refine calls_named ?_
  rintro v3 hv3
  have f3 : Below w.heap.size w v3 := by rw [hv3]; (repeat' (first | (with_reducible exact Below.refl _ _) | (with_reducible assumption) | (with_reducible refine Below.alloc ?_ ?_ _) | (with_reducible refine Below.drew ?_) | (with_reducible refine Below.setCell ?_ ?_ _) | (with_reducible refine bstep (by assumption) ?_ ?_) | (with_reducible exact Nat.le_refl _) | omega | (simp [*]; done) | (simp [*]; omega)))
  have z3 : v2.heap.size + 1 ≤ v3.heap.size := by rw [hv3]; simp [size_set]
  have HP_3 : Hid (Sl v3 2 A n (PR pl)) := by rw [hv3]; exact (HP_2.out).alloc _
  have HQ_3 : Hid (Sl v3 5 B m (JB ql)) := by rw [hv3]; exact (HQ_2.out).alloc _
  have Ha_3 : Hid (Blk v3 w.heap.size 29 #[.int .i64 i0, .int .i64 t0, .slice A n c, .slice B m d, .int .i64 l0, .int .i64 l1, .int .i64 l2]) := by rw [hv3]; exact (Ha_2.out).alloc _
  have Hb_3 : Hid (Blk v3 g1 49 #[.int .i64 ex, .int .i64 et, .int .i64 ec, .int .i64 es, .int .i64 4, .int .i64 ea, .int .i64 eb, .int .i64 eg, .int .i64 eh]) := by rw [hv3]; exact (Hb_2.out).alloc _
  have Hr_3 : Hid (Blk v3 g2 29 #[.int .i64 0, .int .i64 0, .slice none 0 0, .slice none 0 0, .int .i64 0, .int .i64 0, .int .i64 0]) := by rw [hv3]; exact (Hr_2.out).alloc _
  have Hx_3 : Hid (Row v3 v1.heap.size 82 2 A5 n c5 (PR pl)) := by rw [hv3]; exact (Hx_2.out).alloc _
  have Hy_3 : Hid (Row v3 v1.heap.size 70 5 B5 m d5 (JB ql)) := by rw [hv3]; exact (Hy_2.out).alloc _
  have Hz_3 : Hid (Blk v3 v2.heap.size 29 #[.int .i64 i0, .int .i64 t0, .slice A5 n c5, .slice B5 m d5, .int .i64 l0, .int .i64 l1, .int .i64 l2]) := by rw [hv3]; exact (Blk.new_at _ _ _ _ (by simp [size_set]))
  clear lt_a r_a0 r_a1 r_a2 r_a3 r_a4 r_a5 r_a6 lt_b r_b0 r_b1 r_b2 r_b3 r_b4 r_b5 r_b6 r_b7 r_b8 lt_r r_r0 r_r1 r_r2 r_r3 r_r4 r_r5 r_r6 z_r0 z_r1 z_r2 z_r3 z_r4 z_r5 z_r6
  clear hv3 HP_2 HQ_2 Ha_2 Hb_2 Hr_2 Hx_2 Hy_2
  have lt_a := Ha_3.out.lt
  obtain ⟨r_a0, r_a1, r_a2, r_a3, r_a4, r_a5, r_a6⟩ := bc7 Ha_3.out
  have lt_b := Hb_3.out.lt
  obtain ⟨r_b0, r_b1, r_b2, r_b3, r_b4, r_b5, r_b6, r_b7, r_b8⟩ := bc9 Hb_3.out
  have lt_r := Hr_3.out.lt
  obtain ⟨r_r0, r_r1, r_r2, r_r3, r_r4, r_r5, r_r6⟩ := bc7 Hr_3.out
  obtain ⟨z_r0, z_r1, z_r2, z_r3, z_r4, z_r5, z_r6⟩ := bf7 Hr_3.out
  have lt_z := Hz_3.out.lt
  obtain ⟨r_z0, r_z1, r_z2, r_z3, r_z4, r_z5, r_z6⟩ := bc7 Hz_3.out
  obtain ⟨z_z0, z_z1, z_z2, z_z3, z_z4, z_z5, z_z6⟩ := bf7 Hz_3.out
  have cc := specEffectOf_any A n c B m d i0 t0 l0 l1 l2 pl ql ex et ec es 4 ea eb eg eh v3 HP_3.out HQ_3.out hL.out hR.out hn hm HA.out HB.out _ hx.out
  refine (cc).mono ?_
  rintro e v4 ⟨rfl, b4⟩
  have f4 := bthen f3 b4
  have z4 := b4.size
  have HP_4 := Lib.hid (HP_3.out.below b4)
  have HQ_4 := Lib.hid (HQ_3.out.below b4)
  have Ha_4 := Lib.hid (Ha_3.out.below b4)
  have Hb_4 := Lib.hid (Hb_3.out.below b4)
  have Hr_4 := Lib.hid (Hr_3.out.below b4)
  have Hx_4 := Lib.hid (Hx_3.out.below b4)
  have Hy_4 := Lib.hid (Hy_3.out.below b4)
  have Hz_4 := Lib.hid (Hz_3.out.below b4)
  clear lt_a r_a0 r_a1 r_a2 r_a3 r_a4 r_a5 r_a6 lt_b r_b0 r_b1 r_b2 r_b3 r_b4 r_b5 r_b6 r_b7 r_b8 lt_r r_r0 r_r1 r_r2 r_r3 r_r4 r_r5 r_r6 z_r0 z_r1 z_r2 z_r3 z_r4 z_r5 z_r6 lt_z r_z0 r_z1 r_z2 r_z3 r_z4 r_z5 r_z6 z_z0 z_z1 z_z2 z_z3 z_z4 z_z5 z_z6
  clear HP_3 HQ_3 Ha_3 Hb_3 Hr_3 Hx_3 Hy_3 Hz_3
  clear cc
  have lt_a := Ha_4.out.lt
  obtain ⟨r_a0, r_a1, r_a2, r_a3, r_a4, r_a5, r_a6⟩ := bc7 Ha_4.out
  have lt_b := Hb_4.out.lt
  obtain ⟨r_b0, r_b1, r_b2, r_b3, r_b4, r_b5, r_b6, r_b7, r_b8⟩ := bc9 Hb_4.out
  have lt_r := Hr_4.out.lt
  obtain ⟨r_r0, r_r1, r_r2, r_r3, r_r4, r_r5, r_r6⟩ := bc7 Hr_4.out
  obtain ⟨z_r0, z_r1, z_r2, z_r3, z_r4, z_r5, z_r6⟩ := bf7 Hr_4.out
  have lt_z := Hz_4.out.lt
  obtain ⟨r_z0, r_z1, r_z2, r_z3, r_z4, r_z5, r_z6⟩ := bc7 Hz_4.out
  obtain ⟨z_z0, z_z1, z_z2, z_z3, z_z4, z_z5, z_z6⟩ := bf7 Hz_4.out
  go_wp2_with fail
  refine calls_named ?_
  rintro v5 hv5
  have f5 : Below w.heap.size w v5 := by rw [hv5]; (repeat' (first | (with_reducible exact Below.refl _ _) | (with_reducible assumption) | (with_reducible refine Below.alloc ?_ ?_ _) | (with_reducible refine Below.drew ?_) | (with_reducible refine Below.setCell ?_ ?_ _) | (with_reducible refine bstep (by assumption) ?_ ?_) | (with_reducible exact Nat.le_refl _) | omega | (simp [*]; done) | (simp [*]; omega)))
  have z5 : v4.heap.size + 0 ≤ v5.heap.size := by rw [hv5]; simp [size_set]
  have HP_5 : Hid (Sl v5 2 A n (PR pl)) := by rw [hv5]; exact ((HP_4.out).far (p := ⟨v2.heap.size, 0, none⟩) (fun hn a ha => by have := HP_lt.out hn a ha; show a.block ≠ v2.heap.size; omega) _).far (p := ⟨v2.heap.size, 1, none⟩) (fun hn a ha => by have := HP_lt.out hn a ha; show a.block ≠ v2.heap.size; omega) _
  have HQ_5 : Hid (Sl v5 5 B m (JB ql)) := by rw [hv5]; exact ((HQ_4.out).far (p := ⟨v2.heap.size, 0, none⟩) (fun hn a ha => by have := HQ_lt.out hn a ha; show a.block ≠ v2.heap.size; omega) _).far (p := ⟨v2.heap.size, 1, none⟩) (fun hn a ha => by have := HQ_lt.out hn a ha; show a.block ≠ v2.heap.size; omega) _
  have Ha_5 : Hid (Blk v5 w.heap.size 29 #[.int .i64 i0, .int .i64 t0, .slice A n c, .slice B m d, .int .i64 l0, .int .i64 l1, .int .i64 l2]) := by rw [hv5]; exact ((Ha_4.out).far (p := ⟨v2.heap.size, 0, none⟩) (show w.heap.size ≠ v2.heap.size by omega) _).far (p := ⟨v2.heap.size, 1, none⟩) (show w.heap.size ≠ v2.heap.size by omega) _
  have Hb_5 : Hid (Blk v5 g1 49 #[.int .i64 ex, .int .i64 et, .int .i64 ec, .int .i64 es, .int .i64 4, .int .i64 ea, .int .i64 eb, .int .i64 eg, .int .i64 eh]) := by rw [hv5]; exact ((Hb_4.out).far (p := ⟨v2.heap.size, 0, none⟩) (show g1 ≠ v2.heap.size by omega) _).far (p := ⟨v2.heap.size, 1, none⟩) (show g1 ≠ v2.heap.size by omega) _
  have Hr_5 : Hid (Blk v5 g2 29 #[.int .i64 0, .int .i64 0, .slice none 0 0, .slice none 0 0, .int .i64 0, .int .i64 0, .int .i64 0]) := by rw [hv5]; exact ((Hr_4.out).far (p := ⟨v2.heap.size, 0, none⟩) (show g2 ≠ v2.heap.size by omega) _).far (p := ⟨v2.heap.size, 1, none⟩) (show g2 ≠ v2.heap.size by omega) _
  have Hx_5 : Hid (Row v5 v1.heap.size 82 2 A5 n c5 (PR pl)) := by rw [hv5]; exact ((Hx_4.out).far (p := ⟨v2.heap.size, 0, none⟩) (fun a ha => by have := Lx.out a ha; show a.block ≠ v2.heap.size; omega) _).far (p := ⟨v2.heap.size, 1, none⟩) (fun a ha => by have := Lx.out a ha; show a.block ≠ v2.heap.size; omega) _
  have Hy_5 : Hid (Row v5 v1.heap.size 70 5 B5 m d5 (JB ql)) := by rw [hv5]; exact ((Hy_4.out).far (p := ⟨v2.heap.size, 0, none⟩) (fun a ha => by have := Ly.out a ha; show a.block ≠ v2.heap.size; omega) _).far (p := ⟨v2.heap.size, 1, none⟩) (fun a ha => by have := Ly.out a ha; show a.block ≠ v2.heap.size; omega) _
  have Hz_5 : Hid (Blk v5 v2.heap.size 29 #[.int .i64 ex, .int .i64 et, .slice A5 n c5, .slice B5 m d5, .int .i64 l0, .int .i64 l1, .int .i64 l2]) := by rw [hv5]; exact ((Hz_4.out).set_ 0 _).set_ 1 _
  clear lt_a r_a0 r_a1 r_a2 r_a3 r_a4 r_a5 r_a6 lt_b r_b0 r_b1 r_b2 r_b3 r_b4 r_b5 r_b6 r_b7 r_b8 lt_r r_r0 r_r1 r_r2 r_r3 r_r4 r_r5 r_r6 z_r0 z_r1 z_r2 z_r3 z_r4 z_r5 z_r6 lt_z r_z0 r_z1 r_z2 r_z3 r_z4 r_z5 r_z6 z_z0 z_z1 z_z2 z_z3 z_z4 z_z5 z_z6
  clear hv5 HP_4 HQ_4 Ha_4 Hb_4 Hr_4 Hx_4 Hy_4 Hz_4
  have lt_a := Ha_5.out.lt
  obtain ⟨r_a0, r_a1, r_a2, r_a3, r_a4, r_a5, r_a6⟩ := bc7 Ha_5.out
  have lt_b := Hb_5.out.lt
  obtain ⟨r_b0, r_b1, r_b2, r_b3, r_b4, r_b5, r_b6, r_b7, r_b8⟩ := bc9 Hb_5.out
  have lt_r := Hr_5.out.lt
  obtain ⟨r_r0, r_r1, r_r2, r_r3, r_r4, r_r5, r_r6⟩ := bc7 Hr_5.out
  obtain ⟨z_r0, z_r1, z_r2, z_r3, z_r4, z_r5, z_r6⟩ := bf7 Hr_5.out
  have lt_z := Hz_5.out.lt
  obtain ⟨r_z0, r_z1, r_z2, r_z3, r_z4, r_z5, r_z6⟩ := bc7 Hz_5.out
  obtain ⟨z_z0, z_z1, z_z2, z_z3, z_z4, z_z5, z_z6⟩ := bf7 Hz_5.out
  have cc := specJobAt_any B m d ql ea v5 HQ_5.out hR.out hm
  rw [hj.out] at cc
  refine (cc).mono ?_
  rintro e v6 ⟨rfl, b6⟩
  have f6 := bthen f5 b6
  have z6 := b6.size
  have HP_6 := Lib.hid (HP_5.out.below b6)
  have HQ_6 := Lib.hid (HQ_5.out.below b6)
  have Ha_6 := Lib.hid (Ha_5.out.below b6)
  have Hb_6 := Lib.hid (Hb_5.out.below b6)
  have Hr_6 := Lib.hid (Hr_5.out.below b6)
  have Hx_6 := Lib.hid (Hx_5.out.below b6)
  have Hy_6 := Lib.hid (Hy_5.out.below b6)
  have Hz_6 := Lib.hid (Hz_5.out.below b6)
  clear lt_a r_a0 r_a1 r_a2 r_a3 r_a4 r_a5 r_a6 lt_b r_b0 r_b1 r_b2 r_b3 r_b4 r_b5 r_b6 r_b7 r_b8 lt_r r_r0 r_r1 r_r2 r_r3 r_r4 r_r5 r_r6 z_r0 z_r1 z_r2 z_r3 z_r4 z_r5 z_r6 lt_z r_z0 r_z1 r_z2 r_z3 r_z4 r_z5 r_z6 z_z0 z_z1 z_z2 z_z3 z_z4 z_z5 z_z6
  clear HP_5 HQ_5 Ha_5 Hb_5 Hr_5 Hx_5 Hy_5 Hz_5
  clear cc
  have lt_a := Ha_6.out.lt
  obtain ⟨r_a0, r_a1, r_a2, r_a3, r_a4, r_a5, r_a6⟩ := bc7 Ha_6.out
  have lt_b := Hb_6.out.lt
  obtain ⟨r_b0, r_b1, r_b2, r_b3, r_b4, r_b5, r_b6, r_b7, r_b8⟩ := bc9 Hb_6.out
  have lt_r := Hr_6.out.lt
  obtain ⟨r_r0, r_r1, r_r2, r_r3, r_r4, r_r5, r_r6⟩ := bc7 Hr_6.out
  obtain ⟨z_r0, z_r1, z_r2, z_r3, z_r4, z_r5, z_r6⟩ := bf7 Hr_6.out
  have lt_z := Hz_6.out.lt
  obtain ⟨r_z0, r_z1, r_z2, r_z3, r_z4, r_z5, r_z6⟩ := bc7 Hz_6.out
  obtain ⟨z_z0, z_z1, z_z2, z_z3, z_z4, z_z5, z_z6⟩ := bf7 Hz_6.out
  go_wp2_with fail
  refine calls_named ?_
  rintro v7 hv7
  have f7 : Below w.heap.size w v7 := by rw [hv7]; (repeat' (first | (with_reducible exact Below.refl _ _) | (with_reducible assumption) | (with_reducible refine Below.alloc ?_ ?_ _) | (with_reducible refine Below.drew ?_) | (with_reducible refine Below.setCell ?_ ?_ _) | (with_reducible refine bstep (by assumption) ?_ ?_) | (with_reducible exact Nat.le_refl _) | omega | (simp [*]; done) | (simp [*]; omega)))
  have z7 : v6.heap.size + 1 ≤ v7.heap.size := by rw [hv7]; simp [size_set]
  have HP_7 : Hid (Sl v7 2 A n (PR pl)) := by rw [hv7]; exact (HP_6.out).alloc _
  have HQ_7 : Hid (Sl v7 5 B m (JB ql)) := by rw [hv7]; exact (HQ_6.out).alloc _
  have Ha_7 : Hid (Blk v7 w.heap.size 29 #[.int .i64 i0, .int .i64 t0, .slice A n c, .slice B m d, .int .i64 l0, .int .i64 l1, .int .i64 l2]) := by rw [hv7]; exact (Ha_6.out).alloc _
  have Hb_7 : Hid (Blk v7 g1 49 #[.int .i64 ex, .int .i64 et, .int .i64 ec, .int .i64 es, .int .i64 4, .int .i64 ea, .int .i64 eb, .int .i64 eg, .int .i64 eh]) := by rw [hv7]; exact (Hb_6.out).alloc _
  have Hr_7 : Hid (Blk v7 g2 29 #[.int .i64 0, .int .i64 0, .slice none 0 0, .slice none 0 0, .int .i64 0, .int .i64 0, .int .i64 0]) := by rw [hv7]; exact (Hr_6.out).alloc _
  have Hx_7 : Hid (Row v7 v1.heap.size 82 2 A5 n c5 (PR pl)) := by rw [hv7]; exact (Hx_6.out).alloc _
  have Hy_7 : Hid (Row v7 v1.heap.size 70 5 B5 m d5 (JB ql)) := by rw [hv7]; exact (Hy_6.out).alloc _
  have Hz_7 : Hid (Blk v7 v2.heap.size 29 #[.int .i64 ex, .int .i64 et, .slice A5 n c5, .slice B5 m d5, .int .i64 l0, .int .i64 l1, .int .i64 l2]) := by rw [hv7]; exact (Hz_6.out).alloc _
  have Hj_7 : Hid (Blk v7 v6.heap.size 70 #[.int .i64 ji, .int .i64 jd, .int .i64 jk, .int .i64 jv, .int .i64 jf]) := by rw [hv7]; exact (Blk.new_at _ _ _ _ (by simp [size_set]))
  clear lt_a r_a0 r_a1 r_a2 r_a3 r_a4 r_a5 r_a6 lt_b r_b0 r_b1 r_b2 r_b3 r_b4 r_b5 r_b6 r_b7 r_b8 lt_r r_r0 r_r1 r_r2 r_r3 r_r4 r_r5 r_r6 z_r0 z_r1 z_r2 z_r3 z_r4 z_r5 z_r6 lt_z r_z0 r_z1 r_z2 r_z3 r_z4 r_z5 r_z6 z_z0 z_z1 z_z2 z_z3 z_z4 z_z5 z_z6
  clear hv7 HP_6 HQ_6 Ha_6 Hb_6 Hr_6 Hx_6 Hy_6 Hz_6
  have lt_a := Ha_7.out.lt
  obtain ⟨r_a0, r_a1, r_a2, r_a3, r_a4, r_a5, r_a6⟩ := bc7 Ha_7.out
  have lt_b := Hb_7.out.lt
  obtain ⟨r_b0, r_b1, r_b2, r_b3, r_b4, r_b5, r_b6, r_b7, r_b8⟩ := bc9 Hb_7.out
  have lt_r := Hr_7.out.lt
  obtain ⟨r_r0, r_r1, r_r2, r_r3, r_r4, r_r5, r_r6⟩ := bc7 Hr_7.out
  obtain ⟨z_r0, z_r1, z_r2, z_r3, z_r4, z_r5, z_r6⟩ := bf7 Hr_7.out
  have lt_z := Hz_7.out.lt
  obtain ⟨r_z0, r_z1, r_z2, r_z3, r_z4, r_z5, r_z6⟩ := bc7 Hz_7.out
  obtain ⟨z_z0, z_z1, z_z2, z_z3, z_z4, z_z5, z_z6⟩ := bf7 Hz_7.out
  have lt_j := Hj_7.out.lt
  obtain ⟨r_j0, r_j1, r_j2, r_j3, r_j4⟩ := bc5 Hj_7.out
  obtain ⟨z_j0, z_j1, z_j2, z_j3, z_j4⟩ := bf5 Hj_7.out
  have cc := firedRS_any B m d ql ea ex v7 HQ_7.out hR.out hm HB.out
  rw [hq2.out] at cc
  replace cc := cc.mono (fun _ _ h => Lib.hid h)
  have HX : ∀ e w1, RetRowB v7 70 5 (q2, o2).1.length (JB (q2, o2).1) (q2, o2).2 e w1 → RetRowB v7 70 5 m2 (JB q2) o2 e w1 := fun e w1 h => by
    have := hm2.out
    subst this
    exact h
  refine cc.mono ?_
  rintro e v8 hx_
  obtain ⟨A6, c6, rfl, R7, b8⟩ := HX _ _ hx_.out
  clear HX hx_ cc
  have Mu := Lib.hid (show v2.heap.size < v7.heap.size from by have := Hz_7.out.lt; exact this)
  have f8 := bthen f7 b8
  have z8 := b8.size
  have HP_8 := Lib.hid (HP_7.out.below b8)
  have HQ_8 := Lib.hid (HQ_7.out.below b8)
  have Ha_8 := Lib.hid (Ha_7.out.below b8)
  have Hb_8 := Lib.hid (Hb_7.out.below b8)
  have Hr_8 := Lib.hid (Hr_7.out.below b8)
  have Hx_8 := Lib.hid (Hx_7.out.below b8)
  have Hy_8 := Lib.hid (Hy_7.out.below b8)
  have Hz_8 := Lib.hid (Hz_7.out.below b8)
  have Hj_8 := Lib.hid (Hj_7.out.below b8)
  clear lt_a r_a0 r_a1 r_a2 r_a3 r_a4 r_a5 r_a6 lt_b r_b0 r_b1 r_b2 r_b3 r_b4 r_b5 r_b6 r_b7 r_b8 lt_r r_r0 r_r1 r_r2 r_r3 r_r4 r_r5 r_r6 z_r0 z_r1 z_r2 z_r3 z_r4 z_r5 z_r6 lt_z r_z0 r_z1 r_z2 r_z3 r_z4 r_z5 r_z6 z_z0 z_z1 z_z2 z_z3 z_z4 z_z5 z_z6 lt_j r_j0 r_j1 r_j2 r_j3 r_j4 z_j0 z_j1 z_j2 z_j3 z_j4
  clear HP_7 HQ_7 Ha_7 Hb_7 Hr_7 Hx_7 Hy_7 Hz_7 Hj_7
  have Hu_8 := Lib.hid R7
  clear R7
  have lt_a := Ha_8.out.lt
  obtain ⟨r_a0, r_a1, r_a2, r_a3, r_a4, r_a5, r_a6⟩ := bc7 Ha_8.out
  have lt_b := Hb_8.out.lt
  obtain ⟨r_b0, r_b1, r_b2, r_b3, r_b4, r_b5, r_b6, r_b7, r_b8⟩ := bc9 Hb_8.out
  have lt_r := Hr_8.out.lt
  obtain ⟨r_r0, r_r1, r_r2, r_r3, r_r4, r_r5, r_r6⟩ := bc7 Hr_8.out
  obtain ⟨z_r0, z_r1, z_r2, z_r3, z_r4, z_r5, z_r6⟩ := bf7 Hr_8.out
  have lt_z := Hz_8.out.lt
  obtain ⟨r_z0, r_z1, r_z2, r_z3, r_z4, r_z5, r_z6⟩ := bc7 Hz_8.out
  obtain ⟨z_z0, z_z1, z_z2, z_z3, z_z4, z_z5, z_z6⟩ := bf7 Hz_8.out
  have lt_j := Hj_8.out.lt
  obtain ⟨r_j0, r_j1, r_j2, r_j3, r_j4⟩ := bc5 Hj_8.out
  obtain ⟨z_j0, z_j1, z_j2, z_j3, z_j4⟩ := bf5 Hj_8.out
  go_wp2_with fail
  refine calls_named ?_
  rintro v9 hv9
  have f9 : Below w.heap.size w v9 := by rw [hv9]; (repeat' (first | (with_reducible exact Below.refl _ _) | (with_reducible assumption) | (with_reducible refine Below.alloc ?_ ?_ _) | (with_reducible refine Below.drew ?_) | (with_reducible refine Below.setCell ?_ ?_ _) | (with_reducible refine bstep (by assumption) ?_ ?_) | (with_reducible exact Nat.le_refl _) | omega | (simp [*]; done) | (simp [*]; omega)))
  have z9 : v8.heap.size + 0 ≤ v9.heap.size := by rw [hv9]; simp [size_set]
  have HP_9 : Hid (Sl v9 2 A n (PR pl)) := by rw [hv9]; exact (HP_8.out).far (p := ⟨v2.heap.size, 3, none⟩) (fun hn a ha => by have := HP_lt.out hn a ha; show a.block ≠ v2.heap.size; omega) _
  have HQ_9 : Hid (Sl v9 5 B m (JB ql)) := by rw [hv9]; exact (HQ_8.out).far (p := ⟨v2.heap.size, 3, none⟩) (fun hn a ha => by have := HQ_lt.out hn a ha; show a.block ≠ v2.heap.size; omega) _
  have Ha_9 : Hid (Blk v9 w.heap.size 29 #[.int .i64 i0, .int .i64 t0, .slice A n c, .slice B m d, .int .i64 l0, .int .i64 l1, .int .i64 l2]) := by rw [hv9]; exact (Ha_8.out).far (p := ⟨v2.heap.size, 3, none⟩) (show w.heap.size ≠ v2.heap.size by omega) _
  have Hb_9 : Hid (Blk v9 g1 49 #[.int .i64 ex, .int .i64 et, .int .i64 ec, .int .i64 es, .int .i64 4, .int .i64 ea, .int .i64 eb, .int .i64 eg, .int .i64 eh]) := by rw [hv9]; exact (Hb_8.out).far (p := ⟨v2.heap.size, 3, none⟩) (show g1 ≠ v2.heap.size by omega) _
  have Hr_9 : Hid (Blk v9 g2 29 #[.int .i64 0, .int .i64 0, .slice none 0 0, .slice none 0 0, .int .i64 0, .int .i64 0, .int .i64 0]) := by rw [hv9]; exact (Hr_8.out).far (p := ⟨v2.heap.size, 3, none⟩) (show g2 ≠ v2.heap.size by omega) _
  have Hx_9 : Hid (Row v9 v1.heap.size 82 2 A5 n c5 (PR pl)) := by rw [hv9]; exact (Hx_8.out).far (p := ⟨v2.heap.size, 3, none⟩) (fun a ha => by have := Lx.out a ha; show a.block ≠ v2.heap.size; omega) _
  have Hy_9 : Hid (Row v9 v1.heap.size 70 5 B5 m d5 (JB ql)) := by rw [hv9]; exact (Hy_8.out).far (p := ⟨v2.heap.size, 3, none⟩) (fun a ha => by have := Ly.out a ha; show a.block ≠ v2.heap.size; omega) _
  have Hz_9 : Hid (Blk v9 v2.heap.size 29 #[.int .i64 ex, .int .i64 et, .slice A5 n c5, .slice A6 m2 c6, .int .i64 l0, .int .i64 l1, .int .i64 l2]) := by rw [hv9]; exact (Hz_8.out).set_ 3 _
  have Hj_9 : Hid (Blk v9 v6.heap.size 70 #[.int .i64 ji, .int .i64 jd, .int .i64 jk, .int .i64 jv, .int .i64 jf]) := by rw [hv9]; exact (Hj_8.out).far (p := ⟨v2.heap.size, 3, none⟩) (show v6.heap.size ≠ v2.heap.size by omega) _
  have Hu_9 : Hid (Row v9 v7.heap.size 70 5 A6 m2 c6 (JB q2)) := by rw [hv9]; exact (Hu_8.out).far (p := ⟨v2.heap.size, 3, none⟩) (fun a ha => by have := Hu_8.out.ge a ha; have h9 := Mu.out; show a.block ≠ v2.heap.size; omega) _
  clear lt_a r_a0 r_a1 r_a2 r_a3 r_a4 r_a5 r_a6 lt_b r_b0 r_b1 r_b2 r_b3 r_b4 r_b5 r_b6 r_b7 r_b8 lt_r r_r0 r_r1 r_r2 r_r3 r_r4 r_r5 r_r6 z_r0 z_r1 z_r2 z_r3 z_r4 z_r5 z_r6 lt_z r_z0 r_z1 r_z2 r_z3 r_z4 r_z5 r_z6 z_z0 z_z1 z_z2 z_z3 z_z4 z_z5 z_z6 lt_j r_j0 r_j1 r_j2 r_j3 r_j4 z_j0 z_j1 z_j2 z_j3 z_j4
  clear hv9 HP_8 HQ_8 Ha_8 Hb_8 Hr_8 Hx_8 Hy_8 Hz_8 Hj_8 Hu_8
  have lt_a := Ha_9.out.lt
  obtain ⟨r_a0, r_a1, r_a2, r_a3, r_a4, r_a5, r_a6⟩ := bc7 Ha_9.out
  have lt_b := Hb_9.out.lt
  obtain ⟨r_b0, r_b1, r_b2, r_b3, r_b4, r_b5, r_b6, r_b7, r_b8⟩ := bc9 Hb_9.out
  have lt_r := Hr_9.out.lt
  obtain ⟨r_r0, r_r1, r_r2, r_r3, r_r4, r_r5, r_r6⟩ := bc7 Hr_9.out
  obtain ⟨z_r0, z_r1, z_r2, z_r3, z_r4, z_r5, z_r6⟩ := bf7 Hr_9.out
  have lt_z := Hz_9.out.lt
  obtain ⟨r_z0, r_z1, r_z2, r_z3, r_z4, r_z5, r_z6⟩ := bc7 Hz_9.out
  obtain ⟨z_z0, z_z1, z_z2, z_z3, z_z4, z_z5, z_z6⟩ := bf7 Hz_9.out
  have lt_j := Hj_9.out.lt
  obtain ⟨r_j0, r_j1, r_j2, r_j3, r_j4⟩ := bc5 Hj_9.out
  obtain ⟨z_j0, z_j1, z_j2, z_j3, z_j4⟩ := bf5 Hj_9.out
  have cc := putRS_any A n c pl jk jv v9 HP_9.out hL.out hn HA.out
  rw [hp2.out] at cc
  replace cc := cc.mono (fun _ _ h => Lib.hid h)
  have HX : ∀ e w1, RetRowB v9 82 2 (p2, o1).1.length (PR (p2, o1).1) (p2, o1).2 e w1 → RetRowB v9 82 2 n2 (PR p2) o1 e w1 := fun e w1 h => by
    have := hn2.out
    subst this
    exact h
  have Lu := Lib.hid Hu_9.out.lt
  refine cc.mono ?_
  rintro e v10 hx_
  obtain ⟨A7, c7, rfl, R9, b10⟩ := HX _ _ hx_.out
  clear HX hx_ cc
  have Ms := Lib.hid (show v2.heap.size < v9.heap.size from by have := Hz_9.out.lt; exact this)
  have f10 := bthen f9 b10
  have z10 := b10.size
  have HP_10 := Lib.hid (HP_9.out.below b10)
  have HQ_10 := Lib.hid (HQ_9.out.below b10)
  have Ha_10 := Lib.hid (Ha_9.out.below b10)
  have Hb_10 := Lib.hid (Hb_9.out.below b10)
  have Hr_10 := Lib.hid (Hr_9.out.below b10)
  have Hx_10 := Lib.hid (Hx_9.out.below b10)
  have Hy_10 := Lib.hid (Hy_9.out.below b10)
  have Hz_10 := Lib.hid (Hz_9.out.below b10)
  have Hj_10 := Lib.hid (Hj_9.out.below b10)
  have Hu_10 := Lib.hid (Hu_9.out.below b10)
  clear lt_a r_a0 r_a1 r_a2 r_a3 r_a4 r_a5 r_a6 lt_b r_b0 r_b1 r_b2 r_b3 r_b4 r_b5 r_b6 r_b7 r_b8 lt_r r_r0 r_r1 r_r2 r_r3 r_r4 r_r5 r_r6 z_r0 z_r1 z_r2 z_r3 z_r4 z_r5 z_r6 lt_z r_z0 r_z1 r_z2 r_z3 r_z4 r_z5 r_z6 z_z0 z_z1 z_z2 z_z3 z_z4 z_z5 z_z6 lt_j r_j0 r_j1 r_j2 r_j3 r_j4 z_j0 z_j1 z_j2 z_j3 z_j4
  clear HP_9 HQ_9 Ha_9 Hb_9 Hr_9 Hx_9 Hy_9 Hz_9 Hj_9 Hu_9
  have Hs_10 := Lib.hid R9
  clear R9
  have lt_a := Ha_10.out.lt
  obtain ⟨r_a0, r_a1, r_a2, r_a3, r_a4, r_a5, r_a6⟩ := bc7 Ha_10.out
  have lt_b := Hb_10.out.lt
  obtain ⟨r_b0, r_b1, r_b2, r_b3, r_b4, r_b5, r_b6, r_b7, r_b8⟩ := bc9 Hb_10.out
  have lt_r := Hr_10.out.lt
  obtain ⟨r_r0, r_r1, r_r2, r_r3, r_r4, r_r5, r_r6⟩ := bc7 Hr_10.out
  obtain ⟨z_r0, z_r1, z_r2, z_r3, z_r4, z_r5, z_r6⟩ := bf7 Hr_10.out
  have lt_z := Hz_10.out.lt
  obtain ⟨r_z0, r_z1, r_z2, r_z3, r_z4, r_z5, r_z6⟩ := bc7 Hz_10.out
  obtain ⟨z_z0, z_z1, z_z2, z_z3, z_z4, z_z5, z_z6⟩ := bf7 Hz_10.out
  have lt_j := Hj_10.out.lt
  obtain ⟨r_j0, r_j1, r_j2, r_j3, r_j4⟩ := bc5 Hj_10.out
  obtain ⟨z_j0, z_j1, z_j2, z_j3, z_j4⟩ := bf5 Hj_10.out
  have hap2 : ∀ a b, A7 = some a → A6 = some b → a.block ≠ b.block := fun a b ha hb => by
    have h1 := Lu.out b hb
    have h2 := Hs_10.out.ge a ha
    omega
  have HAP2 := Lib.hid hap2
  clear hap2
  go_wp21
  refine bodyPost_ret (v := .tuple #[.agg #[.int .i64 ex, .int .i64 et, .slice A7 n2 c7, .slice A6 m2 c6, .int .i64 l0, .int .i64 l1, .int .i64 l2], .bool true]) (by simp [results, Try.results17, go_sem, *]) rfl ?_
  have ns : ∀ a, A7 = some a → a.block ≠ g2 := fun a ha => by have := Hs_10.out.ge a ha; omega
  have nzs : ∀ a, A7 = some a → a.block ≠ v2.heap.size := fun a ha => by have := Hs_10.out.ge a ha; have h9 := Ms.out; omega
  have nu : ∀ a, A6 = some a → a.block ≠ g2 := fun a ha => by have := Hu_10.out.ge a ha; omega
  have nzu : ∀ a, A6 = some a → a.block ≠ v2.heap.size := fun a ha => by have := Hu_10.out.ge a ha; have h9 := Mu.out; omega
  exact RetStateV.mk hn2.out hm2.out (row_far7 (((Hs_10.out).far (p := ⟨v2.heap.size, 2, none⟩) nzs _).mono (by omega)) ns _ _ _ _ _ _ _) (row_far7 (((Hu_10.out).far (p := ⟨v2.heap.size, 2, none⟩) nzu _).mono (by omega)) nu _ _ _ _ _ _ _) HAP2.out (by (repeat' (first | (with_reducible exact Below.refl _ _) | (with_reducible assumption) | (with_reducible refine Below.alloc ?_ ?_ _) | (with_reducible refine Below.drew ?_) | (with_reducible refine Below.setCell ?_ ?_ _) | (with_reducible refine bstep (by assumption) ?_ ?_) | (with_reducible exact Nat.le_refl _) | omega | (simp [*]; done) | (simp [*]; omega))))
set_option maxRecDepth 100000 in
set_option maxHeartbeats 4000000 in
theorem specApp_5 (A : Option Addr) (n c : Nat) (B : Option Addr) (m d : Nat) (i0 t0 l0 l1 l2 : Int) (pl : List Pr) (ql : List Jb) (ex et ec es ea eb eg eh : Int) (w : World) (hP : Sl w 2 A n (PR pl)) (hQ : Sl w 5 B m (JB ql)) (hl : pl.length = n) (hr : ql.length = m) (hn : n ≤ maxLen) (hm : m ≤ maxLen) (hA : A = none → n = 0 ∧ c = 0) (hB : B = none → m = 0 ∧ d = 0) (hS : Hid (stateB i0 t0 l0 l1 l2 pl ql = true)) (hn10 : n ≤ 10) (hm8 : m ≤ 8) (hx : Hid (effI i0 t0 l0 l1 l2 pl ql ex et ec es 5 ea eb eg eh = 5)) (h2 e2 u2 : Int) (ok : Bool) (hv : Hid (grantL l0 l1 l2 ec et ea = ((h2, e2, u2), ok))) :
    Calls Try.prog 17 #[.agg #[.int .i64 i0, .int .i64 t0, .slice A n c, .slice B m d, .int .i64 l0, .int .i64 l1, .int .i64 l2], .agg #[.int .i64 ex, .int .i64 et, .int .i64 ec, .int .i64 es, .int .i64 5, .int .i64 ea, .int .i64 eb, .int .i64 eg, .int .i64 eh]] w (RetStateV w ex et h2 e2 u2 pl.length (PR pl) ql.length (JB ql) (.bool true)) := by
  have HP := Lib.hid hP
  have HQ := Lib.hid hQ
  have HA := Lib.hid hA
  have HB := Lib.hid hB
  have hL := Lib.hid hl
  have hR := Lib.hid hr
  clear hP hQ hA hB hl hr
  go_enter Try.func17, Try.ntmps17
  go_wp2_with fail
  refine calls_named ?_
  rintro v0 hv0
  have f0 : Below w.heap.size w v0 := by rw [hv0]; (repeat' (first | (with_reducible exact Below.refl _ _) | (with_reducible assumption) | (with_reducible refine Below.alloc ?_ ?_ _) | (with_reducible refine Below.drew ?_) | (with_reducible refine Below.setCell ?_ ?_ _) | (with_reducible refine bstep (by assumption) ?_ ?_) | (with_reducible exact Nat.le_refl _) | omega | (simp [*]; done) | (simp [*]; omega)))
  have z0 : w.heap.size + 3 ≤ v0.heap.size := by rw [hv0]; simp [size_set]
  have HP_0 := Lib.hid (HP.out.below f0)
  have HP_lt := Lib.hid (fun hn => HP.out.lt hn)
  have HQ_0 := Lib.hid (HQ.out.below f0)
  have HQ_lt := Lib.hid (fun hn => HQ.out.lt hn)
  have Ha_0 : Hid (Blk v0 w.heap.size 29 #[.int .i64 i0, .int .i64 t0, .slice A n c, .slice B m d, .int .i64 l0, .int .i64 l1, .int .i64 l2]) := by rw [hv0]; exact ((Blk.new_at _ _ _ _ (by simp)).alloc _).alloc _
  have Hb_0 : Hid (Blk v0 (w.heap.size + 1) 49 #[.int .i64 ex, .int .i64 et, .int .i64 ec, .int .i64 es, .int .i64 5, .int .i64 ea, .int .i64 eb, .int .i64 eg, .int .i64 eh]) := by rw [hv0]; exact (Blk.new_at _ _ _ _ (by simp)).alloc _
  have Hr_0 : Hid (Blk v0 (w.heap.size + 1 + 1) 29 #[.int .i64 0, .int .i64 0, .slice none 0 0, .slice none 0 0, .int .i64 0, .int .i64 0, .int .i64 0]) := by rw [hv0]; exact Blk.new_at _ _ _ _ (by simp)
  clear hv0
  generalize hg2 : w.heap.size + 1 + 1 = g2 at *
  generalize hg1 : w.heap.size + 1 = g1 at *
  have lg1 : w.heap.size < g1 := by omega
  have lg2 : g1 < g2 := by omega
  have lgz : g2 < v0.heap.size := by omega
  have nq1x0 : ¬ g1 = w.heap.size := by omega
  have nq0x1 : ¬ w.heap.size = g1 := by omega
  have nq2x0 : ¬ g2 = w.heap.size := by omega
  have nq0x2 : ¬ w.heap.size = g2 := by omega
  have nq2x1 : ¬ g2 = g1 := by omega
  have nq1x2 : ¬ g1 = g2 := by omega
  clear hg1 hg2
  have lt_a := Ha_0.out.lt
  obtain ⟨r_a0, r_a1, r_a2, r_a3, r_a4, r_a5, r_a6⟩ := bc7 Ha_0.out
  have lt_b := Hb_0.out.lt
  obtain ⟨r_b0, r_b1, r_b2, r_b3, r_b4, r_b5, r_b6, r_b7, r_b8⟩ := bc9 Hb_0.out
  have lt_r := Hr_0.out.lt
  obtain ⟨r_r0, r_r1, r_r2, r_r3, r_r4, r_r5, r_r6⟩ := bc7 Hr_0.out
  obtain ⟨z_r0, z_r1, z_r2, z_r3, z_r4, z_r5, z_r6⟩ := bf7 Hr_0.out
  have cc := specStateOk_any A n c B m d i0 t0 l0 l1 l2 pl ql v0 HP_0.out HQ_0.out hL.out hR.out hn hm
  rw [hS.out] at cc
  refine (cc).mono ?_
  rintro e v1 ⟨rfl, b1⟩
  have f1 := bthen f0 b1
  have z1 := b1.size
  have HP_1 := Lib.hid (HP_0.out.below b1)
  have HQ_1 := Lib.hid (HQ_0.out.below b1)
  have Ha_1 := Lib.hid (Ha_0.out.below b1)
  have Hb_1 := Lib.hid (Hb_0.out.below b1)
  have Hr_1 := Lib.hid (Hr_0.out.below b1)
  clear lt_a r_a0 r_a1 r_a2 r_a3 r_a4 r_a5 r_a6 lt_b r_b0 r_b1 r_b2 r_b3 r_b4 r_b5 r_b6 r_b7 r_b8 lt_r r_r0 r_r1 r_r2 r_r3 r_r4 r_r5 r_r6 z_r0 z_r1 z_r2 z_r3 z_r4 z_r5 z_r6
  clear HP_0 HQ_0 Ha_0 Hb_0 Hr_0
  clear cc
  have lt_a := Ha_1.out.lt
  obtain ⟨r_a0, r_a1, r_a2, r_a3, r_a4, r_a5, r_a6⟩ := bc7 Ha_1.out
  have lt_b := Hb_1.out.lt
  obtain ⟨r_b0, r_b1, r_b2, r_b3, r_b4, r_b5, r_b6, r_b7, r_b8⟩ := bc9 Hb_1.out
  have lt_r := Hr_1.out.lt
  obtain ⟨r_r0, r_r1, r_r2, r_r3, r_r4, r_r5, r_r6⟩ := bc7 Hr_1.out
  obtain ⟨z_r0, z_r1, z_r2, z_r3, z_r4, z_r5, z_r6⟩ := bf7 Hr_1.out
  go_wp2_with fail
  refine (l17Copy_any A n c B m d i0 t0 l0 l1 l2 pl ql _ HP_1.out HQ_1.out hL.out hR.out (by omega) (by omega) HA.out HB.out).mono ?_
  rintro e v2 ⟨A5, c5, B5, d5, rfl, R5, R6, hap, b2⟩
  have HAP := Lib.hid hap
  have Lx := Lib.hid R5.lt
  have Ly := Lib.hid R6.lt
  clear hap
  have f2 := bthen f1 b2
  have z2 := b2.size
  have HP_2 := Lib.hid (HP_1.out.below b2)
  have HQ_2 := Lib.hid (HQ_1.out.below b2)
  have Ha_2 := Lib.hid (Ha_1.out.below b2)
  have Hb_2 := Lib.hid (Hb_1.out.below b2)
  have Hr_2 := Lib.hid (Hr_1.out.below b2)
  clear lt_a r_a0 r_a1 r_a2 r_a3 r_a4 r_a5 r_a6 lt_b r_b0 r_b1 r_b2 r_b3 r_b4 r_b5 r_b6 r_b7 r_b8 lt_r r_r0 r_r1 r_r2 r_r3 r_r4 r_r5 r_r6 z_r0 z_r1 z_r2 z_r3 z_r4 z_r5 z_r6
  clear HP_1 HQ_1 Ha_1 Hb_1 Hr_1
  have Hx_2 := Lib.hid R5
  clear R5
  have Hy_2 := Lib.hid R6
  clear R6
  have lt_a := Ha_2.out.lt
  obtain ⟨r_a0, r_a1, r_a2, r_a3, r_a4, r_a5, r_a6⟩ := bc7 Ha_2.out
  have lt_b := Hb_2.out.lt
  obtain ⟨r_b0, r_b1, r_b2, r_b3, r_b4, r_b5, r_b6, r_b7, r_b8⟩ := bc9 Hb_2.out
  have lt_r := Hr_2.out.lt
  obtain ⟨r_r0, r_r1, r_r2, r_r3, r_r4, r_r5, r_r6⟩ := bc7 Hr_2.out
  obtain ⟨z_r0, z_r1, z_r2, z_r3, z_r4, z_r5, z_r6⟩ := bf7 Hr_2.out
  go_wp2_with fail
  refine calls_named ?_
  rintro v3 hv3
  have f3 : Below w.heap.size w v3 := by rw [hv3]; (repeat' (first | (with_reducible exact Below.refl _ _) | (with_reducible assumption) | (with_reducible refine Below.alloc ?_ ?_ _) | (with_reducible refine Below.drew ?_) | (with_reducible refine Below.setCell ?_ ?_ _) | (with_reducible refine bstep (by assumption) ?_ ?_) | (with_reducible exact Nat.le_refl _) | omega | (simp [*]; done) | (simp [*]; omega)))
  have z3 : v2.heap.size + 1 ≤ v3.heap.size := by rw [hv3]; simp [size_set]
  have HP_3 : Hid (Sl v3 2 A n (PR pl)) := by rw [hv3]; exact (HP_2.out).alloc _
  have HQ_3 : Hid (Sl v3 5 B m (JB ql)) := by rw [hv3]; exact (HQ_2.out).alloc _
  have Ha_3 : Hid (Blk v3 w.heap.size 29 #[.int .i64 i0, .int .i64 t0, .slice A n c, .slice B m d, .int .i64 l0, .int .i64 l1, .int .i64 l2]) := by rw [hv3]; exact (Ha_2.out).alloc _
  have Hb_3 : Hid (Blk v3 g1 49 #[.int .i64 ex, .int .i64 et, .int .i64 ec, .int .i64 es, .int .i64 5, .int .i64 ea, .int .i64 eb, .int .i64 eg, .int .i64 eh]) := by rw [hv3]; exact (Hb_2.out).alloc _
  have Hr_3 : Hid (Blk v3 g2 29 #[.int .i64 0, .int .i64 0, .slice none 0 0, .slice none 0 0, .int .i64 0, .int .i64 0, .int .i64 0]) := by rw [hv3]; exact (Hr_2.out).alloc _
  have Hx_3 : Hid (Row v3 v1.heap.size 82 2 A5 n c5 (PR pl)) := by rw [hv3]; exact (Hx_2.out).alloc _
  have Hy_3 : Hid (Row v3 v1.heap.size 70 5 B5 m d5 (JB ql)) := by rw [hv3]; exact (Hy_2.out).alloc _
  have Hz_3 : Hid (Blk v3 v2.heap.size 29 #[.int .i64 i0, .int .i64 t0, .slice A5 n c5, .slice B5 m d5, .int .i64 l0, .int .i64 l1, .int .i64 l2]) := by rw [hv3]; exact (Blk.new_at _ _ _ _ (by simp [size_set]))
  clear lt_a r_a0 r_a1 r_a2 r_a3 r_a4 r_a5 r_a6 lt_b r_b0 r_b1 r_b2 r_b3 r_b4 r_b5 r_b6 r_b7 r_b8 lt_r r_r0 r_r1 r_r2 r_r3 r_r4 r_r5 r_r6 z_r0 z_r1 z_r2 z_r3 z_r4 z_r5 z_r6
  clear hv3 HP_2 HQ_2 Ha_2 Hb_2 Hr_2 Hx_2 Hy_2
  have lt_a := Ha_3.out.lt
  obtain ⟨r_a0, r_a1, r_a2, r_a3, r_a4, r_a5, r_a6⟩ := bc7 Ha_3.out
  have lt_b := Hb_3.out.lt
  obtain ⟨r_b0, r_b1, r_b2, r_b3, r_b4, r_b5, r_b6, r_b7, r_b8⟩ := bc9 Hb_3.out
  have lt_r := Hr_3.out.lt
  obtain ⟨r_r0, r_r1, r_r2, r_r3, r_r4, r_r5, r_r6⟩ := bc7 Hr_3.out
  obtain ⟨z_r0, z_r1, z_r2, z_r3, z_r4, z_r5, z_r6⟩ := bf7 Hr_3.out
  have lt_z := Hz_3.out.lt
  obtain ⟨r_z0, r_z1, r_z2, r_z3, r_z4, r_z5, r_z6⟩ := bc7 Hz_3.out
  obtain ⟨z_z0, z_z1, z_z2, z_z3, z_z4, z_z5, z_z6⟩ := bf7 Hz_3.out
  have cc := specEffectOf_any A n c B m d i0 t0 l0 l1 l2 pl ql ex et ec es 5 ea eb eg eh v3 HP_3.out HQ_3.out hL.out hR.out hn hm HA.out HB.out _ hx.out
  refine (cc).mono ?_
  rintro e v4 ⟨rfl, b4⟩
  have f4 := bthen f3 b4
  have z4 := b4.size
  have HP_4 := Lib.hid (HP_3.out.below b4)
  have HQ_4 := Lib.hid (HQ_3.out.below b4)
  have Ha_4 := Lib.hid (Ha_3.out.below b4)
  have Hb_4 := Lib.hid (Hb_3.out.below b4)
  have Hr_4 := Lib.hid (Hr_3.out.below b4)
  have Hx_4 := Lib.hid (Hx_3.out.below b4)
  have Hy_4 := Lib.hid (Hy_3.out.below b4)
  have Hz_4 := Lib.hid (Hz_3.out.below b4)
  clear lt_a r_a0 r_a1 r_a2 r_a3 r_a4 r_a5 r_a6 lt_b r_b0 r_b1 r_b2 r_b3 r_b4 r_b5 r_b6 r_b7 r_b8 lt_r r_r0 r_r1 r_r2 r_r3 r_r4 r_r5 r_r6 z_r0 z_r1 z_r2 z_r3 z_r4 z_r5 z_r6 lt_z r_z0 r_z1 r_z2 r_z3 r_z4 r_z5 r_z6 z_z0 z_z1 z_z2 z_z3 z_z4 z_z5 z_z6
  clear HP_3 HQ_3 Ha_3 Hb_3 Hr_3 Hx_3 Hy_3 Hz_3
  clear cc
  have lt_a := Ha_4.out.lt
  obtain ⟨r_a0, r_a1, r_a2, r_a3, r_a4, r_a5, r_a6⟩ := bc7 Ha_4.out
  have lt_b := Hb_4.out.lt
  obtain ⟨r_b0, r_b1, r_b2, r_b3, r_b4, r_b5, r_b6, r_b7, r_b8⟩ := bc9 Hb_4.out
  have lt_r := Hr_4.out.lt
  obtain ⟨r_r0, r_r1, r_r2, r_r3, r_r4, r_r5, r_r6⟩ := bc7 Hr_4.out
  obtain ⟨z_r0, z_r1, z_r2, z_r3, z_r4, z_r5, z_r6⟩ := bf7 Hr_4.out
  have lt_z := Hz_4.out.lt
  obtain ⟨r_z0, r_z1, r_z2, r_z3, r_z4, r_z5, r_z6⟩ := bc7 Hz_4.out
  obtain ⟨z_z0, z_z1, z_z2, z_z3, z_z4, z_z5, z_z6⟩ := bf7 Hz_4.out
  go_wp2_with fail
  refine calls_named ?_
  rintro v5 hv5
  have f5 : Below w.heap.size w v5 := by rw [hv5]; (repeat' (first | (with_reducible exact Below.refl _ _) | (with_reducible assumption) | (with_reducible refine Below.alloc ?_ ?_ _) | (with_reducible refine Below.drew ?_) | (with_reducible refine Below.setCell ?_ ?_ _) | (with_reducible refine bstep (by assumption) ?_ ?_) | (with_reducible exact Nat.le_refl _) | omega | (simp [*]; done) | (simp [*]; omega)))
  have z5 : v4.heap.size + 0 ≤ v5.heap.size := by rw [hv5]; simp [size_set]
  have HP_5 : Hid (Sl v5 2 A n (PR pl)) := by rw [hv5]; exact ((HP_4.out).far (p := ⟨v2.heap.size, 0, none⟩) (fun hn a ha => by have := HP_lt.out hn a ha; show a.block ≠ v2.heap.size; omega) _).far (p := ⟨v2.heap.size, 1, none⟩) (fun hn a ha => by have := HP_lt.out hn a ha; show a.block ≠ v2.heap.size; omega) _
  have HQ_5 : Hid (Sl v5 5 B m (JB ql)) := by rw [hv5]; exact ((HQ_4.out).far (p := ⟨v2.heap.size, 0, none⟩) (fun hn a ha => by have := HQ_lt.out hn a ha; show a.block ≠ v2.heap.size; omega) _).far (p := ⟨v2.heap.size, 1, none⟩) (fun hn a ha => by have := HQ_lt.out hn a ha; show a.block ≠ v2.heap.size; omega) _
  have Ha_5 : Hid (Blk v5 w.heap.size 29 #[.int .i64 i0, .int .i64 t0, .slice A n c, .slice B m d, .int .i64 l0, .int .i64 l1, .int .i64 l2]) := by rw [hv5]; exact ((Ha_4.out).far (p := ⟨v2.heap.size, 0, none⟩) (show w.heap.size ≠ v2.heap.size by omega) _).far (p := ⟨v2.heap.size, 1, none⟩) (show w.heap.size ≠ v2.heap.size by omega) _
  have Hb_5 : Hid (Blk v5 g1 49 #[.int .i64 ex, .int .i64 et, .int .i64 ec, .int .i64 es, .int .i64 5, .int .i64 ea, .int .i64 eb, .int .i64 eg, .int .i64 eh]) := by rw [hv5]; exact ((Hb_4.out).far (p := ⟨v2.heap.size, 0, none⟩) (show g1 ≠ v2.heap.size by omega) _).far (p := ⟨v2.heap.size, 1, none⟩) (show g1 ≠ v2.heap.size by omega) _
  have Hr_5 : Hid (Blk v5 g2 29 #[.int .i64 0, .int .i64 0, .slice none 0 0, .slice none 0 0, .int .i64 0, .int .i64 0, .int .i64 0]) := by rw [hv5]; exact ((Hr_4.out).far (p := ⟨v2.heap.size, 0, none⟩) (show g2 ≠ v2.heap.size by omega) _).far (p := ⟨v2.heap.size, 1, none⟩) (show g2 ≠ v2.heap.size by omega) _
  have Hx_5 : Hid (Row v5 v1.heap.size 82 2 A5 n c5 (PR pl)) := by rw [hv5]; exact ((Hx_4.out).far (p := ⟨v2.heap.size, 0, none⟩) (fun a ha => by have := Lx.out a ha; show a.block ≠ v2.heap.size; omega) _).far (p := ⟨v2.heap.size, 1, none⟩) (fun a ha => by have := Lx.out a ha; show a.block ≠ v2.heap.size; omega) _
  have Hy_5 : Hid (Row v5 v1.heap.size 70 5 B5 m d5 (JB ql)) := by rw [hv5]; exact ((Hy_4.out).far (p := ⟨v2.heap.size, 0, none⟩) (fun a ha => by have := Ly.out a ha; show a.block ≠ v2.heap.size; omega) _).far (p := ⟨v2.heap.size, 1, none⟩) (fun a ha => by have := Ly.out a ha; show a.block ≠ v2.heap.size; omega) _
  have Hz_5 : Hid (Blk v5 v2.heap.size 29 #[.int .i64 ex, .int .i64 et, .slice A5 n c5, .slice B5 m d5, .int .i64 l0, .int .i64 l1, .int .i64 l2]) := by rw [hv5]; exact ((Hz_4.out).set_ 0 _).set_ 1 _
  clear lt_a r_a0 r_a1 r_a2 r_a3 r_a4 r_a5 r_a6 lt_b r_b0 r_b1 r_b2 r_b3 r_b4 r_b5 r_b6 r_b7 r_b8 lt_r r_r0 r_r1 r_r2 r_r3 r_r4 r_r5 r_r6 z_r0 z_r1 z_r2 z_r3 z_r4 z_r5 z_r6 lt_z r_z0 r_z1 r_z2 r_z3 r_z4 r_z5 r_z6 z_z0 z_z1 z_z2 z_z3 z_z4 z_z5 z_z6
  clear hv5 HP_4 HQ_4 Ha_4 Hb_4 Hr_4 Hx_4 Hy_4 Hz_4
  have lt_a := Ha_5.out.lt
  obtain ⟨r_a0, r_a1, r_a2, r_a3, r_a4, r_a5, r_a6⟩ := bc7 Ha_5.out
  have lt_b := Hb_5.out.lt
  obtain ⟨r_b0, r_b1, r_b2, r_b3, r_b4, r_b5, r_b6, r_b7, r_b8⟩ := bc9 Hb_5.out
  have lt_r := Hr_5.out.lt
  obtain ⟨r_r0, r_r1, r_r2, r_r3, r_r4, r_r5, r_r6⟩ := bc7 Hr_5.out
  obtain ⟨z_r0, z_r1, z_r2, z_r3, z_r4, z_r5, z_r6⟩ := bf7 Hr_5.out
  have lt_z := Hz_5.out.lt
  obtain ⟨r_z0, r_z1, r_z2, r_z3, r_z4, r_z5, r_z6⟩ := bc7 Hz_5.out
  obtain ⟨z_z0, z_z1, z_z2, z_z3, z_z4, z_z5, z_z6⟩ := bf7 Hz_5.out
  have cc := specGranted_any l0 l1 l2 ec et ea v5
  rw [hv.out] at cc
  replace cc : Calls _ _ _ _ (fun e w1 => e = .returned (.tuple #[.agg #[.int .i64 h2, .int .i64 e2, .int .i64 u2], .bool ok]) ∧ Below v5.heap.size v5 w1) := cc
  refine (cc).mono ?_
  rintro e v6 ⟨rfl, b6⟩
  have f6 := bthen f5 b6
  have z6 := b6.size
  have HP_6 := Lib.hid (HP_5.out.below b6)
  have HQ_6 := Lib.hid (HQ_5.out.below b6)
  have Ha_6 := Lib.hid (Ha_5.out.below b6)
  have Hb_6 := Lib.hid (Hb_5.out.below b6)
  have Hr_6 := Lib.hid (Hr_5.out.below b6)
  have Hx_6 := Lib.hid (Hx_5.out.below b6)
  have Hy_6 := Lib.hid (Hy_5.out.below b6)
  have Hz_6 := Lib.hid (Hz_5.out.below b6)
  clear lt_a r_a0 r_a1 r_a2 r_a3 r_a4 r_a5 r_a6 lt_b r_b0 r_b1 r_b2 r_b3 r_b4 r_b5 r_b6 r_b7 r_b8 lt_r r_r0 r_r1 r_r2 r_r3 r_r4 r_r5 r_r6 z_r0 z_r1 z_r2 z_r3 z_r4 z_r5 z_r6 lt_z r_z0 r_z1 r_z2 r_z3 r_z4 r_z5 r_z6 z_z0 z_z1 z_z2 z_z3 z_z4 z_z5 z_z6
  clear HP_5 HQ_5 Ha_5 Hb_5 Hr_5 Hx_5 Hy_5 Hz_5
  clear cc
  have lt_a := Ha_6.out.lt
  obtain ⟨r_a0, r_a1, r_a2, r_a3, r_a4, r_a5, r_a6⟩ := bc7 Ha_6.out
  have lt_b := Hb_6.out.lt
  obtain ⟨r_b0, r_b1, r_b2, r_b3, r_b4, r_b5, r_b6, r_b7, r_b8⟩ := bc9 Hb_6.out
  have lt_r := Hr_6.out.lt
  obtain ⟨r_r0, r_r1, r_r2, r_r3, r_r4, r_r5, r_r6⟩ := bc7 Hr_6.out
  obtain ⟨z_r0, z_r1, z_r2, z_r3, z_r4, z_r5, z_r6⟩ := bf7 Hr_6.out
  have lt_z := Hz_6.out.lt
  obtain ⟨r_z0, r_z1, r_z2, r_z3, r_z4, r_z5, r_z6⟩ := bc7 Hz_6.out
  obtain ⟨z_z0, z_z1, z_z2, z_z3, z_z4, z_z5, z_z6⟩ := bf7 Hz_6.out
  go_wp21
  refine bodyPost_ret (v := .tuple #[.agg #[.int .i64 ex, .int .i64 et, .slice A5 n c5, .slice B5 m d5, .int .i64 h2, .int .i64 e2, .int .i64 u2], .bool true]) (by simp [results, Try.results17, go_sem, *]) rfl ?_
  have nx : ∀ a, A5 = some a → a.block ≠ g2 := fun a ha => by have := Hx_6.out.ge a ha; omega
  have nzx : ∀ a, A5 = some a → a.block ≠ v2.heap.size := fun a ha => by have := Lx.out a ha; omega
  have ny : ∀ a, B5 = some a → a.block ≠ g2 := fun a ha => by have := Hy_6.out.ge a ha; omega
  have nzy : ∀ a, B5 = some a → a.block ≠ v2.heap.size := fun a ha => by have := Ly.out a ha; omega
  exact RetStateV.mk hL.out hR.out (row_far7 (((((Hx_6.out).far (p := ⟨v2.heap.size, 4, none⟩) nzx _).far (p := ⟨v2.heap.size, 5, none⟩) nzx _).far (p := ⟨v2.heap.size, 6, none⟩) nzx _).mono (by omega)) nx _ _ _ _ _ _ _) (row_far7 (((((Hy_6.out).far (p := ⟨v2.heap.size, 4, none⟩) nzy _).far (p := ⟨v2.heap.size, 5, none⟩) nzy _).far (p := ⟨v2.heap.size, 6, none⟩) nzy _).mono (by omega)) ny _ _ _ _ _ _ _) HAP.out (by (repeat' (first | (with_reducible exact Below.refl _ _) | (with_reducible assumption) | (with_reducible refine Below.alloc ?_ ?_ _) | (with_reducible refine Below.drew ?_) | (with_reducible refine Below.setCell ?_ ?_ _) | (with_reducible refine bstep (by assumption) ?_ ?_) | (with_reducible exact Nat.le_refl _) | omega | (simp [*]; done) | (simp [*]; omega))))
end Go.Proofs.Ytokklkmibjpjnaa
namespace Go.Proofs.Ytokklkmibjpjnaa
set_option linter.unusedSimpArgs false
set_option linter.unusedVariables false
attribute [local go_sem] n_lt2 n_lt3 n_lt4 n_le2 n_le3
open Go.RowKit
theorem nextInB_mk {i0 t0 l0 l1 l2 : Int} {pl : List Pr} {ql : List Jb} {ex et ec es ek ea eb eg eh : Int} (h : stateB i0 t0 l0 l1 l2 pl ql = true) (h2 : nextB i0 t0 ex et ec es ek ea eb eg eh = true) : nextInB i0 t0 l0 l1 l2 pl ql ex et ec es ek ea eb eg eh = true := by
  unfold nextInB
  rw [h, h2]
  rfl
theorem specApplied_g (A : Option Addr) (n c : Nat) (B : Option Addr) (m d : Nat) (i0 t0 l0 l1 l2 : Int) (pl : List Pr) (ql : List Jb) (ex et ec es ek ea eb eg eh : Int) (w : World) (hP : Sl w 2 A n (PR pl)) (hQ : Sl w 5 B m (JB ql)) (hl : pl.length = n) (hr : ql.length = m) (hn : n ≤ maxLen) (hm : m ≤ maxLen) (hA : A = none → n = 0 ∧ c = 0) (hB : B = none → m = 0 ∧ d = 0) (ri rt rh re ru : Int) (rp : List Pr) (rq : List Jb) (rn rm : Nat) (rb : Bool) (hres : AppIs i0 t0 l0 l1 l2 pl ql ex et ec es ek ea eb eg eh ri rt rh re ru rp rq rn rm rb) :
    Calls Try.prog 17 #[.agg #[.int .i64 i0, .int .i64 t0, .slice A n c, .slice B m d, .int .i64 l0, .int .i64 l1, .int .i64 l2], .agg #[.int .i64 ex, .int .i64 et, .int .i64 ec, .int .i64 es, .int .i64 ek, .int .i64 ea, .int .i64 eb, .int .i64 eg, .int .i64 eh]] w (RetStateV w ri rt rh re ru rn (PR rp) rm (JB rq) (.bool rb)) := by
  obtain ⟨h1, h2, h3⟩ := hres
  subst h2 h3
  unfold appR at h1
  cases q1 : stateB i0 t0 l0 l1 l2 pl ql with
  | false =>
    rw [if_neg (by rw [q1]; decide)] at h1
    injection h1 with h1 h4
    injection h1 with h1 h5
    injection h5 with h5 h6
    injection h6 with h6 h7 h8 h9 h10
    subst h1 h5 h6 h7 h8 h9 h10 h4
    exact specApp_bad A n c B m d i0 t0 l0 l1 l2 pl ql ex et ec es ek ea eb eg eh w hP hQ hl hr hn hm hA hB (Lib.hid q1)
  | true =>
  rw [if_pos q1] at h1
  have hle := stateB_lens q1
  have hn10 : n ≤ 10 := by omega
  have hm8 : m ≤ 8 := by omega
  cases q2 : nextB i0 t0 ex et ec es ek ea eb eg eh with
  | false =>
    rw [if_neg (by rw [q2]; decide)] at h1
    injection h1 with h1 h4
    injection h1 with h1 h5
    injection h5 with h5 h6
    injection h6 with h6 h7 h8 h9 h10
    subst h1 h5 h6 h7 h8 h9 h10 h4
    exact specApp_not A n c B m d i0 t0 l0 l1 l2 pl ql ex et ec es ek ea eb eg eh w hP hQ hl hr hn hm hA hB (Lib.hid q1) hn10 hm8 (Lib.hid (by unfold effI nextInB; rw [q1, q2]; rfl))
  | true =>
  rw [if_pos q2] at h1
  injection h1 with h1 h4
  injection h1 with h1 h5
  injection h5 with h5 h1
  subst ri rt rb
  rcases nextB_kind q2 with rfl | rfl | rfl | rfl | rfl
  · have hN := nextInB_mk q1 q2
    cases hok : (putR pl ea eb).2 with
    | false =>
      have e0 : (effE l0 l1 l2 pl ql ex et ec es 1 ea eb eg eh).2 = false := by rw [effE_1]; exact hok
      have hx0 : effI i0 t0 l0 l1 l2 pl ql ex et ec es 1 ea eb eg eh = 0 := by unfold effI appI; rw [if_pos hN, if_neg (by rw [e0]; decide)]
      unfold appE at h1
      rw [if_neg (by rw [e0]; decide)] at h1
      injection h1 with z1 z2 z3 z4 z5
      subst z1 z2 z3 z4 z5
      exact specApp_0 A n c B m d i0 t0 l0 l1 l2 pl ql ex et ec es 1 ea eb eg eh w hP hQ hl hr hn hm hA hB (Lib.hid q1) hn10 hm8 (Lib.hid hx0)
    | true =>
      have e0 : (effE l0 l1 l2 pl ql ex et ec es 1 ea eb eg eh).2 = true := by rw [effE_1]; exact hok
      have hx1 : effI i0 t0 l0 l1 l2 pl ql ex et ec es 1 ea eb eg eh = 1 := by unfold effI appI; rw [if_pos hN, if_pos e0]
      unfold appE at h1
      rw [if_pos e0, effE_1] at h1
      injection h1 with z1 z2 z3 z4 z5
      subst z1 z2 z3 z4 z5
      exact specApp_1 A n c B m d i0 t0 l0 l1 l2 pl ql ex et ec es ea eb eg eh w hP hQ hl hr hn hm hA hB (Lib.hid q1) hn10 hm8 (Lib.hid hx1) _ _ _ (Lib.hid rfl) (Lib.hid rfl)
  · have hN := nextInB_mk q1 q2
    cases hok : (cutR pl ea).2 with
    | false =>
      have e0 : (effE l0 l1 l2 pl ql ex et ec es 2 ea eb eg eh).2 = false := by rw [effE_2]; exact hok
      have hx0 : effI i0 t0 l0 l1 l2 pl ql ex et ec es 2 ea eb eg eh = 0 := by unfold effI appI; rw [if_pos hN, if_neg (by rw [e0]; decide)]
      unfold appE at h1
      rw [if_neg (by rw [e0]; decide)] at h1
      injection h1 with z1 z2 z3 z4 z5
      subst z1 z2 z3 z4 z5
      exact specApp_0 A n c B m d i0 t0 l0 l1 l2 pl ql ex et ec es 2 ea eb eg eh w hP hQ hl hr hn hm hA hB (Lib.hid q1) hn10 hm8 (Lib.hid hx0)
    | true =>
      have e0 : (effE l0 l1 l2 pl ql ex et ec es 2 ea eb eg eh).2 = true := by rw [effE_2]; exact hok
      have hx1 : effI i0 t0 l0 l1 l2 pl ql ex et ec es 2 ea eb eg eh = 2 := by unfold effI appI; rw [if_pos hN, if_pos e0]
      unfold appE at h1
      rw [if_pos e0, effE_2] at h1
      injection h1 with z1 z2 z3 z4 z5
      subst z1 z2 z3 z4 z5
      exact specApp_2 A n c B m d i0 t0 l0 l1 l2 pl ql ex et ec es ea eb eg eh w hP hQ hl hr hn hm hA hB (Lib.hid q1) hn10 hm8 (Lib.hid hx1) _ _ _ (Lib.hid rfl) (Lib.hid rfl)
  · have hN := nextInB_mk q1 q2
    cases hok : (addR ql ⟨ea, eb, eg, eh, 0⟩).2 with
    | false =>
      have e0 : (effE l0 l1 l2 pl ql ex et ec es 3 ea eb eg eh).2 = false := by rw [effE_3]; exact hok
      have hx0 : effI i0 t0 l0 l1 l2 pl ql ex et ec es 3 ea eb eg eh = 0 := by unfold effI appI; rw [if_pos hN, if_neg (by rw [e0]; decide)]
      unfold appE at h1
      rw [if_neg (by rw [e0]; decide)] at h1
      injection h1 with z1 z2 z3 z4 z5
      subst z1 z2 z3 z4 z5
      exact specApp_0 A n c B m d i0 t0 l0 l1 l2 pl ql ex et ec es 3 ea eb eg eh w hP hQ hl hr hn hm hA hB (Lib.hid q1) hn10 hm8 (Lib.hid hx0)
    | true =>
      have e0 : (effE l0 l1 l2 pl ql ex et ec es 3 ea eb eg eh).2 = true := by rw [effE_3]; exact hok
      have hx1 : effI i0 t0 l0 l1 l2 pl ql ex et ec es 3 ea eb eg eh = 3 := by unfold effI appI; rw [if_pos hN, if_pos e0]
      unfold appE at h1
      rw [if_pos e0, effE_3] at h1
      injection h1 with z1 z2 z3 z4 z5
      subst z1 z2 z3 z4 z5
      exact specApp_3 A n c B m d i0 t0 l0 l1 l2 pl ql ex et ec es ea eb eg eh w hP hQ hl hr hn hm hA hB (Lib.hid q1) hn10 hm8 (Lib.hid hx1) _ _ _ (Lib.hid rfl) (Lib.hid rfl)
  · have hN := nextInB_mk q1 q2
    cases hok : firesB l0 l1 l2 ql et ec 4 ea eb with
    | false =>
      have e0 : (effE l0 l1 l2 pl ql ex et ec es 4 ea eb eg eh).2 = false := by rw [effE_4n hok]
      have hx0 : effI i0 t0 l0 l1 l2 pl ql ex et ec es 4 ea eb eg eh = 0 := by unfold effI appI; rw [if_pos hN, if_neg (by rw [e0]; decide)]
      unfold appE at h1
      rw [if_neg (by rw [e0]; decide)] at h1
      injection h1 with z1 z2 z3 z4 z5
      subst z1 z2 z3 z4 z5
      exact specApp_0 A n c B m d i0 t0 l0 l1 l2 pl ql ex et ec es 4 ea eb eg eh w hP hQ hl hr hn hm hA hB (Lib.hid q1) hn10 hm8 (Lib.hid hx0)
    | true =>
      obtain ⟨hid, hjo⟩ := fires_id hok
      have hjb := (stateB_all q1).2.2.2.1
      have e0 : (effE l0 l1 l2 pl ql ex et ec es 4 ea eb eg eh).2 = true := by rw [effE_4y hok]
      have hx1 : effI i0 t0 l0 l1 l2 pl ql ex et ec es 4 ea eb eg eh = 4 := by unfold effI appI; rw [if_pos hN, if_pos e0]
      unfold appE at h1
      rw [if_pos e0, effE_4y hok, hid] at h1
      injection h1 with z1 z2 z3 z4 z5
      subst z1 z2 z3 z4 z5
      exact specApp_4 A n c B m d i0 t0 l0 l1 l2 pl ql ex et ec es ea eb eg eh w hP hQ hl hr hn hm hA hB (Lib.hid q1) hn10 hm8 (Lib.hid hx1) _ _ (putR pl (jobAtV ql ea).1.k (jobAtV ql ea).1.v).2 (firedR ql ea ex).2 true _ _ (jobAtV ql ea).1.i (jobAtV ql ea).1.d (jobAtV ql ea).1.k (jobAtV ql ea).1.v (jobAtV ql ea).1.f (Lib.hid (by unfold jobAtR; rw [if_pos hjb, ← hjo])) (Lib.hid rfl) (Lib.hid rfl) (Lib.hid rfl) (Lib.hid rfl)
  · have hN := nextInB_mk q1 q2
    cases hok : (grantL l0 l1 l2 ec et ea).2 with
    | false =>
      have e0 : (effE l0 l1 l2 pl ql ex et ec es 5 ea eb eg eh).2 = false := by rw [effE_5]; exact hok
      have hx0 : effI i0 t0 l0 l1 l2 pl ql ex et ec es 5 ea eb eg eh = 0 := by unfold effI appI; rw [if_pos hN, if_neg (by rw [e0]; decide)]
      unfold appE at h1
      rw [if_neg (by rw [e0]; decide)] at h1
      injection h1 with z1 z2 z3 z4 z5
      subst z1 z2 z3 z4 z5
      exact specApp_0 A n c B m d i0 t0 l0 l1 l2 pl ql ex et ec es 5 ea eb eg eh w hP hQ hl hr hn hm hA hB (Lib.hid q1) hn10 hm8 (Lib.hid hx0)
    | true =>
      have e0 : (effE l0 l1 l2 pl ql ex et ec es 5 ea eb eg eh).2 = true := by rw [effE_5]; exact hok
      have hx1 : effI i0 t0 l0 l1 l2 pl ql ex et ec es 5 ea eb eg eh = 5 := by unfold effI appI; rw [if_pos hN, if_pos e0]
      unfold appE at h1
      rw [if_pos e0, effE_5] at h1
      injection h1 with z1 z2 z3 z4 z5
      subst z1 z2 z3 z4 z5
      exact specApp_5 A n c B m d i0 t0 l0 l1 l2 pl ql ex et ec es ea eb eg eh w hP hQ hl hr hn hm hA hB (Lib.hid q1) hn10 hm8 (Lib.hid hx1) _ _ _ _ (Lib.hid rfl)
end Go.Proofs.Ytokklkmibjpjnaa
namespace Go.Proofs.Ytokklkmibjpjnaa
set_option linter.unusedSimpArgs false
set_option linter.unusedVariables false
attribute [local go_sem] n_lt2 n_lt3 n_lt4 n_le2 n_le3
open Go.RowKit
attribute [local go_sem] Ext.cell Ext.frozen
theorem info_EntryS : (Try.prog.info? 49).map (fun i => (i.zero, i.size, i.bytes)) = some (some (.agg #[.int .i64 0, .int .i64 0, .int .i64 0, .int .i64 0, .int .i64 0, .int .i64 0, .int .i64 0, .int .i64 0, .int .i64 0]), 9, 72) := by kernel_rfl
theorem specNewState_s (w : World) : Calls Try.prog 68 #[] w fun e w' => e = .returned (.agg #[.int .i64 0, .int .i64 0, .slice none 0 0, .slice none 0 0, .int .i64 0, .int .i64 0, .int .i64 0]) ∧ Below w.heap.size w w' := by
  go_enter Try.func68, Try.ntmps68
  go_wp21
  refine bodyPost_ret (v := .agg #[.int .i64 0, .int .i64 0, .slice none 0 0, .slice none 0 0, .int .i64 0, .int .i64 0, .int .i64 0]) (by simp [results, Try.results68, go_sem, *]) rfl ?_
  exact ⟨rfl, by (repeat' (first | (with_reducible exact Below.refl _ _) | (with_reducible assumption) | (with_reducible refine Below.alloc ?_ ?_ _) | (with_reducible refine Below.drew ?_) | (with_reducible refine Below.setCell ?_ ?_ _) | (with_reducible refine bstep (by assumption) ?_ ?_) | (with_reducible exact Nat.le_refl _) | omega | (simp [*]; done) | (simp [*]; omega)))⟩
structure FrS (O A B : Option Addr) (g : Nat) : Prop where
  o : ∀ a, O = some a → a.block ≠ g
  a : ∀ a, A = some a → a.block ≠ g
  b : ∀ a, B = some a → a.block ≠ g
structure ApS (O A B : Option Addr) : Prop where
  oa : ∀ a b, O = some a → A = some b → a.block ≠ b.block
  ob : ∀ a b, O = some a → B = some b → a.block ≠ b.block
theorem Blk.keepb {w w' : World} {g E : Nat} {cs : Array Value} (h : Blk w g E cs) (hk : w'.heap[g]? = w.heap[g]?) : Blk w' g E cs := hk.trans h
structure LY (w v : World) (p gl gs : Nat) (O : Option Addr) (no co : Nat) (zs : List Int) (A : Option Addr) (n c : Nat) (B : Option Addr) (m d : Nat) (ci ct ch ce cu : Int) (cp : List Pr) (cq : List Jb) : Prop where
  RO : Row v w.heap.size 49 9 O no co zs
  L : Blk v gl 29 #[.int .i64 0, .int .i64 0, .slice none 0 0, .slice none 0 0, .int .i64 0, .int .i64 0, .int .i64 0]
  S : Blk v gs 29 #[.int .i64 ci, .int .i64 ct, .slice A n c, .slice B m d, .int .i64 ch, .int .i64 ce, .int .i64 cu]
  P : Row v w.heap.size 82 2 A n c (PR cp)
  Q : Row v w.heap.size 70 5 B m d (JB cq)
  D : LC v p 74
  W : Wrote w v (some ⟨p, 0, none⟩)
  fl : FrS O A B gl
  fs : FrS O A B gs
  ap : ApS O A B
section
variable {w v : World} {p gl gs : Nat} {O : Option Addr} {no co : Nat} {zs : List Int} {A : Option Addr} {n c : Nat} {B : Option Addr} {m d : Nat} {ci ct ch ce cu : Int} {cp : List Pr} {cq : List Jb}
theorem LY.wrote {v2 : World} (h : LY w v p gl gs O no co zs A n c B m d ci ct ch ce cu cp cq) (hp : p < w.heap.size) (hl : w.heap.size ≤ gl) (hs : w.heap.size ≤ gs) (hW : Wrote v v2 (some ⟨p, 0, none⟩)) (hD : LC v2 p 74) : LY w v2 p gl gs O no co zs A n c B m d ci ct ch ce cu cp cq :=
  ⟨rowp h.RO hW hp, h.L.wrote2 hW (by omega), h.S.wrote2 hW (by omega), rowp h.P hW hp, rowp h.Q hW hp, hD, wrote_trans h.W hW, h.fl, h.fs, h.ap⟩
theorem LY.below {v2 : World} (h : LY w v p gl gs O no co zs A n c B m d ci ct ch ce cu cp cq) (hb : Below v.heap.size v v2) : LY w v2 p gl gs O no co zs A n c B m d ci ct ch ce cu cp cq :=
  ⟨h.RO.below hb, h.L.below hb, h.S.below hb, h.P.below hb, h.Q.below hb, h.D.new hb, wrote_then h.W hb, h.fl, h.fs, h.ap⟩
theorem LY.fresh (h : LY w v p gl gs O no co zs A n c B m d ci ct ch ce cu cp cq) {g : Nat} (hg : v.heap.size ≤ g) : FrS O A B g := ⟨fun a ha => by have := h.RO.lt a ha; omega, fun a ha => by have := h.P.lt a ha; omega, fun a ha => by have := h.Q.lt a ha; omega⟩
end
theorem appR_ok {ci ct ch ce cu : Int} {cp : List Pr} {cq : List Jb} {ex et ec es ek ea eb eg eh : Int} {ri rt rh re ru : Int} {rp : List Pr} {rq : List Jb} (h : appR ci ct ch ce cu cp cq ex et ec es ek ea eb eg eh = ((ri, rt, ⟨rp, rq, rh, re, ru⟩), true)) : stateB ri rt rh re ru rp rq = true := by
  unfold appR at h
  cases q1 : stateB ci ct ch ce cu cp cq with
  | false =>
    rw [if_neg (by rw [q1]; decide)] at h
    injection h with h1 h2
    cases h2
  | true =>
  rw [if_pos q1] at h
  cases q2 : nextB ci ct ex et ec es ek ea eb eg eh with
  | false =>
    rw [if_neg (by rw [q2]; decide)] at h
    injection h with h1 h2
    cases h2
  | true =>
  rw [if_pos q2] at h
  injection h with h1 _
  injection h1 with h1 h2
  injection h2 with h2 h3
  subst h1 h2
  have h4 := app_ok q1 q2
  rw [h3] at h4
  exact h4
theorem lc_far7 {v : World} {p D g : Nat} (H : LC v p D) (h : p < g) (y0 y1 y2 y3 y4 y5 y6 : Value) : LC (World.setCell (World.setCell (World.setCell (World.setCell (World.setCell (World.setCell (World.setCell v ⟨g, 0, none⟩ y0) ⟨g, 1, none⟩ y1) ⟨g, 2, none⟩ y2) ⟨g, 3, none⟩ y3) ⟨g, 4, none⟩ y4) ⟨g, 5, none⟩ y5) ⟨g, 6, none⟩ y6) p D := by
  have k0 : LC (World.setCell v ⟨g, 0, none⟩ y0) p D := H.far (q := ⟨g, 0, none⟩) h y0
  have k1 : LC (World.setCell (World.setCell v ⟨g, 0, none⟩ y0) ⟨g, 1, none⟩ y1) p D := k0.far (q := ⟨g, 1, none⟩) h y1
  have k2 : LC (World.setCell (World.setCell (World.setCell v ⟨g, 0, none⟩ y0) ⟨g, 1, none⟩ y1) ⟨g, 2, none⟩ y2) p D := k1.far (q := ⟨g, 2, none⟩) h y2
  have k3 : LC (World.setCell (World.setCell (World.setCell (World.setCell v ⟨g, 0, none⟩ y0) ⟨g, 1, none⟩ y1) ⟨g, 2, none⟩ y2) ⟨g, 3, none⟩ y3) p D := k2.far (q := ⟨g, 3, none⟩) h y3
  have k4 : LC (World.setCell (World.setCell (World.setCell (World.setCell (World.setCell v ⟨g, 0, none⟩ y0) ⟨g, 1, none⟩ y1) ⟨g, 2, none⟩ y2) ⟨g, 3, none⟩ y3) ⟨g, 4, none⟩ y4) p D := k3.far (q := ⟨g, 4, none⟩) h y4
  have k5 : LC (World.setCell (World.setCell (World.setCell (World.setCell (World.setCell (World.setCell v ⟨g, 0, none⟩ y0) ⟨g, 1, none⟩ y1) ⟨g, 2, none⟩ y2) ⟨g, 3, none⟩ y3) ⟨g, 4, none⟩ y4) ⟨g, 5, none⟩ y5) p D := k4.far (q := ⟨g, 5, none⟩) h y5
  have k6 : LC (World.setCell (World.setCell (World.setCell (World.setCell (World.setCell (World.setCell (World.setCell v ⟨g, 0, none⟩ y0) ⟨g, 1, none⟩ y1) ⟨g, 2, none⟩ y2) ⟨g, 3, none⟩ y3) ⟨g, 4, none⟩ y4) ⟨g, 5, none⟩ y5) ⟨g, 6, none⟩ y6) p D := k5.far (q := ⟨g, 6, none⟩) h y6
  exact k6
theorem blk_sets7 {v : World} {g E : Nat} {z0 z1 z2 z3 z4 z5 z6 : Value} (K : Blk v g E #[z0, z1, z2, z3, z4, z5, z6]) (y0 y1 y2 y3 y4 y5 y6 : Value) : Blk (World.setCell (World.setCell (World.setCell (World.setCell (World.setCell (World.setCell (World.setCell v ⟨g, 0, none⟩ y0) ⟨g, 1, none⟩ y1) ⟨g, 2, none⟩ y2) ⟨g, 3, none⟩ y3) ⟨g, 4, none⟩ y4) ⟨g, 5, none⟩ y5) ⟨g, 6, none⟩ y6) g E #[y0, y1, y2, y3, y4, y5, y6] := by
  have k0 : Blk (World.setCell v ⟨g, 0, none⟩ y0) g E #[y0, z1, z2, z3, z4, z5, z6] := K.set_ 0 y0
  have k1 : Blk (World.setCell (World.setCell v ⟨g, 0, none⟩ y0) ⟨g, 1, none⟩ y1) g E #[y0, y1, z2, z3, z4, z5, z6] := k0.set_ 1 y1
  have k2 : Blk (World.setCell (World.setCell (World.setCell v ⟨g, 0, none⟩ y0) ⟨g, 1, none⟩ y1) ⟨g, 2, none⟩ y2) g E #[y0, y1, y2, z3, z4, z5, z6] := k1.set_ 2 y2
  have k3 : Blk (World.setCell (World.setCell (World.setCell (World.setCell v ⟨g, 0, none⟩ y0) ⟨g, 1, none⟩ y1) ⟨g, 2, none⟩ y2) ⟨g, 3, none⟩ y3) g E #[y0, y1, y2, y3, z4, z5, z6] := k2.set_ 3 y3
  have k4 : Blk (World.setCell (World.setCell (World.setCell (World.setCell (World.setCell v ⟨g, 0, none⟩ y0) ⟨g, 1, none⟩ y1) ⟨g, 2, none⟩ y2) ⟨g, 3, none⟩ y3) ⟨g, 4, none⟩ y4) g E #[y0, y1, y2, y3, y4, z5, z6] := k3.set_ 4 y4
  have k5 : Blk (World.setCell (World.setCell (World.setCell (World.setCell (World.setCell (World.setCell v ⟨g, 0, none⟩ y0) ⟨g, 1, none⟩ y1) ⟨g, 2, none⟩ y2) ⟨g, 3, none⟩ y3) ⟨g, 4, none⟩ y4) ⟨g, 5, none⟩ y5) g E #[y0, y1, y2, y3, y4, y5, z6] := k4.set_ 5 y5
  have k6 : Blk (World.setCell (World.setCell (World.setCell (World.setCell (World.setCell (World.setCell (World.setCell v ⟨g, 0, none⟩ y0) ⟨g, 1, none⟩ y1) ⟨g, 2, none⟩ y2) ⟨g, 3, none⟩ y3) ⟨g, 4, none⟩ y4) ⟨g, 5, none⟩ y5) ⟨g, 6, none⟩ y6) g E #[y0, y1, y2, y3, y4, y5, y6] := k5.set_ 6 y6
  exact k6
theorem blk_fars7 {v : World} {k g E : Nat} {cs : Array Value} (K : Blk v k E cs) (h : k ≠ g) (y0 y1 y2 y3 y4 y5 y6 : Value) : Blk (World.setCell (World.setCell (World.setCell (World.setCell (World.setCell (World.setCell (World.setCell v ⟨g, 0, none⟩ y0) ⟨g, 1, none⟩ y1) ⟨g, 2, none⟩ y2) ⟨g, 3, none⟩ y3) ⟨g, 4, none⟩ y4) ⟨g, 5, none⟩ y5) ⟨g, 6, none⟩ y6) k E cs := by
  have k0 : Blk (World.setCell v ⟨g, 0, none⟩ y0) k E cs := K.far (p := ⟨g, 0, none⟩) h y0
  have k1 : Blk (World.setCell (World.setCell v ⟨g, 0, none⟩ y0) ⟨g, 1, none⟩ y1) k E cs := k0.far (p := ⟨g, 1, none⟩) h y1
  have k2 : Blk (World.setCell (World.setCell (World.setCell v ⟨g, 0, none⟩ y0) ⟨g, 1, none⟩ y1) ⟨g, 2, none⟩ y2) k E cs := k1.far (p := ⟨g, 2, none⟩) h y2
  have k3 : Blk (World.setCell (World.setCell (World.setCell (World.setCell v ⟨g, 0, none⟩ y0) ⟨g, 1, none⟩ y1) ⟨g, 2, none⟩ y2) ⟨g, 3, none⟩ y3) k E cs := k2.far (p := ⟨g, 3, none⟩) h y3
  have k4 : Blk (World.setCell (World.setCell (World.setCell (World.setCell (World.setCell v ⟨g, 0, none⟩ y0) ⟨g, 1, none⟩ y1) ⟨g, 2, none⟩ y2) ⟨g, 3, none⟩ y3) ⟨g, 4, none⟩ y4) k E cs := k3.far (p := ⟨g, 4, none⟩) h y4
  have k5 : Blk (World.setCell (World.setCell (World.setCell (World.setCell (World.setCell (World.setCell v ⟨g, 0, none⟩ y0) ⟨g, 1, none⟩ y1) ⟨g, 2, none⟩ y2) ⟨g, 3, none⟩ y3) ⟨g, 4, none⟩ y4) ⟨g, 5, none⟩ y5) k E cs := k4.far (p := ⟨g, 5, none⟩) h y5
  have k6 : Blk (World.setCell (World.setCell (World.setCell (World.setCell (World.setCell (World.setCell (World.setCell v ⟨g, 0, none⟩ y0) ⟨g, 1, none⟩ y1) ⟨g, 2, none⟩ y2) ⟨g, 3, none⟩ y3) ⟨g, 4, none⟩ y4) ⟨g, 5, none⟩ y5) ⟨g, 6, none⟩ y6) k E cs := k5.far (p := ⟨g, 6, none⟩) h y6
  exact k6
theorem cell_nine_at (w : World) (y0 y1 y2 y3 y4 y5 y6 y7 y8 : Value) (t : TypeId) (g : Nat) (hg : g = w.heap.size) : ∀ j u, [y0, y1, y2, y3, y4, y5, y6, y7, y8][j]? = some u → (w.alloc (.cells #[y0, y1, y2, y3, y4, y5, y6, y7, y8] t)).cell? ((⟨g, 0, none⟩ : Addr).add j) = some u := by
  subst hg
  intro j u hj
  match j, hj with
  | 0, hj => simp at hj; subst hj; simp [Addr.add]
  | 1, hj => simp at hj; subst hj; simp [Addr.add]
  | 2, hj => simp at hj; subst hj; simp [Addr.add]
  | 3, hj => simp at hj; subst hj; simp [Addr.add]
  | 4, hj => simp at hj; subst hj; simp [Addr.add]
  | 5, hj => simp at hj; subst hj; simp [Addr.add]
  | 6, hj => simp at hj; subst hj; simp [Addr.add]
  | 7, hj => simp at hj; subst hj; simp [Addr.add]
  | 8, hj => simp at hj; subst hj; simp [Addr.add]
theorem ly_next {w v : World} {p gl gs : Nat} {O : Option Addr} {no co : Nat} {zs : List Int} {A : Option Addr} {n c : Nat} {B : Option Addr} {m d : Nat} {ci ct ch ce cu : Int} {cp : List Pr} {cq : List Jb} {u8 : World} {s5 : Nat} {x : Obj} {O8 : Option Addr} {c8 : Nat} {A6 : Option Addr} {rn c6 : Nat} {B6 : Option Addr} {rm d6 : Nat} {ri rt rh re ru : Int} {rp : List Pr} {rq : List Jb} {nz : List Int}
    (H : LY w v p gl gs O no co zs A n c B m d ci ct ch ce cu cp cq) (hp : p < w.heap.size) (wgl : w.heap.size ≤ gl) (wgs : w.heap.size ≤ gs) (hgls : ¬ gl = gs) (l5l : gl < s5) (l5s : gs < s5) (hO : ∀ a, O = some a → a.block < s5) (hs5 : s5 ≤ v.heap.size)
    (RP : Row v s5 82 2 A6 rn c6 (PR rp)) (RQ : Row v s5 70 5 B6 rm d6 (JB rq))
    (R8 : Row u8 w.heap.size 49 9 O8 (no + 1) c8 nz) (b8 : Below w.heap.size (v.alloc x) u8) (W8 : Wrote (v.alloc x) u8 O) (L8 : ∀ b, O8 = some b → (∃ a, O = some a ∧ a.block = b.block) ∨ b.block = (v.alloc x).heap.size) (KS8 : Blk u8 gs 29 #[.int .i64 ci, .int .i64 ct, .slice A n c, .slice B m d, .int .i64 ch, .int .i64 ce, .int .i64 cu]) :
    LY w (World.setCell (World.setCell (World.setCell (World.setCell (World.setCell (World.setCell (World.setCell u8 ⟨gs, 0, none⟩ (.int .i64 ri)) ⟨gs, 1, none⟩ (.int .i64 rt)) ⟨gs, 2, none⟩ (.slice A6 rn c6)) ⟨gs, 3, none⟩ (.slice B6 rm d6)) ⟨gs, 4, none⟩ (.int .i64 rh)) ⟨gs, 5, none⟩ (.int .i64 re)) ⟨gs, 6, none⟩ (.int .i64 ru)) p gl gs O8 (no + 1) c8 nz A6 rn c6 B6 rm d6 ri rt rh re ru rp rq := by
  have hsz : (v.alloc x).heap.size = v.heap.size + 1 := by simp
  have hO8 : ∀ b, O8 = some b → b.block < s5 ∧ (∃ a, O = some a ∧ a.block = b.block) ∨ v.heap.size < b.block := fun b hb => by
    rcases L8 b hb with ⟨a, ha, hab⟩ | h
    · exact .inl ⟨by have := hO a ha; omega, a, ha, hab⟩
    · exact .inr (by omega)
  have fr : ∀ g, g < s5 → (∀ a, O = some a → a.block ≠ g) → FrS O8 A6 B6 g := fun g hg h => ⟨fun b hb => by
    rcases hO8 b hb with ⟨_, a, ha, hab⟩ | h1
    · have := h a ha; omega
    · omega, fun a ha => by have := RP.ge a ha; omega, fun a ha => by have := RQ.ge a ha; omega⟩
  have fs := fr gs l5s H.fs.o
  have fl := fr gl l5l H.fl.o
  have oA : ∀ a b, A6 = some a → O = some b → a.block ≠ b.block := fun a b ha hb => by have := RP.ge a ha; have := hO b hb; omega
  have oB : ∀ a b, B6 = some a → O = some b → a.block ≠ b.block := fun a b ha hb => by have := RQ.ge a ha; have := hO b hb; omega
  have hw := H.W.size
  refine ⟨?_, ?_, ?_, ?_, ?_, ?_, ?_, fl, fs, ⟨fun b a hb ha => ?_, fun b a hb ha => ?_⟩⟩
  · exact row_far7 R8 fs.o _ _ _ _ _ _ _
  · exact blk_fars7 ((H.L.alloc x).wroteA W8 H.fl.o) hgls _ _ _ _ _ _ _
  · exact blk_sets7 KS8 _ _ _ _ _ _ _
  · exact row_far7 (((RP.alloc x).wrote W8 oA).mono (by omega)) fs.a _ _ _ _ _ _ _
  · exact row_far7 (((RQ.alloc x).wrote W8 oB).mono (by omega)) fs.b _ _ _ _ _ _ _
  · exact lc_far7 ((H.D.alloc x).wrote W8 (fun a ha => by have := H.RO.ge a ha; omega)) (by omega) _ _ _ _ _ _ _
  · exact wrote_grow H.W (below_far7 (btr ((Below.refl w.heap.size v).alloc hw x) b8) wgs _ _ _ _ _ _ _) (Nat.le_refl _)
  · rcases hO8 b hb with ⟨h1, _⟩ | h1
    · have := RP.ge a ha; omega
    · have := RP.lt a ha; omega
  · rcases hO8 b hb with ⟨h1, _⟩ | h1
    · have := RQ.ge a ha; omega
    · have := RQ.lt a ha; omega
def RetEnts (w : World) (p : Nat) (e : Ending) (w' : World) : Prop := ∃ (O : Option Addr) (no co : Nat) (A : Option Addr) (n c : Nat) (B : Option Addr) (m d : Nat) (ci ct ch ce cu : Int) (cp : List Pr) (cq : List Jb), e = .returned (.tuple #[.slice O no co, .agg #[.int .i64 ci, .int .i64 ct, .slice A n c, .slice B m d, .int .i64 ch, .int .i64 ce, .int .i64 cu]]) ∧ cp.length = n ∧ cq.length = m ∧ n ≤ 20 ∧ m ≤ 10 ∧ Row w' w.heap.size 82 2 A n c (PR cp) ∧ Row w' w.heap.size 70 5 B m d (JB cq) ∧ LC w' p 74 ∧ Wrote w w' (some ⟨p, 0, none⟩)
def RetSt (w : World) (p : Nat) (e : Ending) (w' : World) : Prop := ∃ (A : Option Addr) (n c : Nat) (B : Option Addr) (m d : Nat) (ci ct ch ce cu : Int) (cp : List Pr) (cq : List Jb), e = .returned (.agg #[.int .i64 ci, .int .i64 ct, .slice A n c, .slice B m d, .int .i64 ch, .int .i64 ce, .int .i64 cu]) ∧ cp.length = n ∧ cq.length = m ∧ n ≤ 20 ∧ m ≤ 10 ∧ Row w' w.heap.size 82 2 A n c (PR cp) ∧ Row w' w.heap.size 70 5 B m d (JB cq) ∧ LC w' p 74 ∧ Wrote w w' (some ⟨p, 0, none⟩)
set_option maxRecDepth 100000 in
set_option maxHeartbeats 8000000 in
theorem l17DrawEntries_zero (p : Nat) (k : Int) (w : World) (hD : LC w p 74) (hk : 0 ≤ k ∧ k ≤ 20) :
    Calls Try.prog 67 #[.pointer (some ⟨p, 0, none⟩), .agg #[.int .i64 0, .int .i64 0, .slice none 0 0, .slice none 0 0, .int .i64 0, .int .i64 0, .int .i64 0], .int .i64 k] w (RetEnts w p) := by
  have hp := hD.lt
  go_enter Try.func67, Try.ntmps67
  go_upto_region 2 with fail
  obtain ⟨v1, hv1⟩ : ∃ x : World, x = (((w.alloc (.cells #[.int .i64 0, .int .i64 0, .slice none 0 0, .slice none 0 0, .int .i64 0, .int .i64 0, .int .i64 0] 29)).alloc (.cells #[.int .i64 0, .int .i64 0, .slice none 0 0, .slice none 0 0, .int .i64 0, .int .i64 0, .int .i64 0] 29)).alloc (.cells #[] 49)) := ⟨_, rfl⟩
  rw [← hv1]
  have HX0 : Hid (LY w v1 p (w.heap.size + 1) w.heap.size (some ⟨w.heap.size + 1 + 1, 0, none⟩) 0 0 [] none 0 0 none 0 0 0 0 0 0 0 [] []) := by
    rw [hv1]
    refine Lib.hid ⟨row0p (Blk.new_at _ _ _ _ (by simp)) (by omega), (Blk.new_at _ _ _ _ (by simp)).alloc _, ((Blk.new_at _ _ _ _ rfl).alloc _).alloc _, Row.nil _ _ _ _, Row.nil _ _ _ _, ((hD.alloc _).alloc _).alloc _, wrote_below (by (repeat' (first | (with_reducible exact Below.refl _ _) | (with_reducible assumption) | (with_reducible refine Below.alloc ?_ ?_ _) | (with_reducible refine Below.drew ?_) | (with_reducible refine Below.setCell ?_ ?_ _) | (with_reducible refine bstep (by assumption) ?_ ?_) | (with_reducible exact Nat.le_refl _) | omega | (simp [*]; done) | (simp [*]; omega)))) _, ⟨fun a ha => ?_, fun a ha => (by cases ha), fun a ha => (by cases ha)⟩, ⟨fun a ha => ?_, fun a ha => (by cases ha), fun a ha => (by cases ha)⟩, ⟨fun a b ha hb => (by cases hb), fun a b ha hb => (by cases hb)⟩⟩
    · obtain rfl := Option.some.inj ha; show w.heap.size + 1 + 1 ≠ w.heap.size + 1; omega
    · obtain rfl := Option.some.inj ha; show w.heap.size + 1 + 1 ≠ w.heap.size; omega
  clear hv1 hD
  generalize hO0 : some (⟨w.heap.size + 1 + 1, 0, none⟩ : Addr) = O0 at *
  clear hO0
  generalize hgl : w.heap.size + 1 = gl at *
  have wgl : w.heap.size ≤ gl := by omega
  obtain ⟨gs, hgs⟩ : ∃ g, g = w.heap.size := ⟨_, rfl⟩
  have hgls : ¬ gl = gs := by omega
  have hgsl : ¬ gs = gl := by omega
  have wgs : w.heap.size ≤ gs := by omega
  have HX1 : Hid (LY w v1 p gl gs O0 0 0 [] none 0 0 none 0 0 0 0 0 0 0 [] []) := by rw [hgs]; exact HX0
  clear HX0
  have hgs2 : (⟨w.heap.size, 0, none⟩ : Addr) = ⟨gs, 0, none⟩ := by rw [hgs]
  try simp only [hgs2]
  clear hgs2 hgs hgl
  obtain ⟨k0, rfl⟩ : ∃ k0 : Nat, k = k0 := ⟨k.toNat, by omega⟩
  go_loopw [2, 8] (fun kv ov wr => ∃ (k : Nat) (O : Option Addr) (no co : Nat) (zs : List Int) (A : Option Addr) (n c : Nat) (B : Option Addr) (m d : Nat) (ci ct ch ce cu : Int) (cp : List Pr) (cq : List Jb), kv = .int .i64 k ∧ ov = .slice O no co ∧ no + k ≤ 20 ∧ Hid (stateB ci ct ch ce cu cp cq = true) ∧ Hid (cp.length = n) ∧ Hid (cq.length = m) ∧ Hid (LY w wr p gl gs O no co zs A n c B m d ci ct ch ce cu cp cq)) (fun kv _ _ => (intOf kv).toNat)
  case atStart => exact ⟨k0, O0, 0, 0, [], none, 0, 0, none, 0, 0, 0, 0, 0, 0, 0, [], [], rfl, rfl, by omega, Lib.hid (by decide), Lib.hid rfl, Lib.hid rfl, HX1⟩
  case round =>
    clear HX1
    obtain ⟨k, O, no, co, zs, A, n, c, B, m, d, ci, ct, ch, ce, cu, cp, cq, rfl, rfl, hnk, HSO, HN, HM, HX⟩ := hrel
    have hle := stateB_lens HSO.out
    rw [HN.out, HM.out] at hle
    obtain ⟨hn10, hm8⟩ := hle
    by_cases hk0 : 0 < k
    · have hk1 : (0 : Int) < (k : Int) := by omega
      have lt_s := HX.out.S.lt
      obtain ⟨r_s0, r_s1, r_s2, r_s3, r_s4, r_s5, r_s6⟩ := bc7 HX.out.S
      go_wp2_with fail
      refine (l17DrawEntry_any p A n c B m d ci ct ch ce cu cq wr HX.out.D HX.out.Q.sl HM.out (by unfold maxLen; omega) (fun a ha => by have := HX.out.Q.ge a ha; omega)).mono ?_
      rintro e u1 ⟨ex, et, ec, es, ek, ea, eb, eg, eh, rfl, D1, W1⟩
      have z1 := W1.size
      have lw := HX.out.W.size
      have HX1 := Lib.hid (HX.out.wrote hp wgl wgs W1 D1)
      clear D1 W1 HX
      clear lt_s r_s0 r_s1 r_s2 r_s3 r_s4 r_s5 r_s6
      go_upto_region 5 with fail
      obtain ⟨u2, hu2⟩ : ∃ x : World, x = (u1.alloc (.cells #[.int .i64 ex, .int .i64 et, .int .i64 ec, .int .i64 es, .int .i64 ek, .int .i64 ea, .int .i64 eb, .int .i64 eg, .int .i64 eh] 49)) := ⟨_, rfl⟩
      rw [← hu2]
      obtain ⟨ge, hge⟩ : ∃ g, g = u1.heap.size := ⟨_, rfl⟩
      have KE5 : Hid (Blk u2 ge 49 #[.int .i64 ex, .int .i64 et, .int .i64 ec, .int .i64 es, .int .i64 ek, .int .i64 ea, .int .i64 eb, .int .i64 eg, .int .i64 eh]) := by rw [hu2, hge]; exact Lib.hid (Blk.new_at _ _ _ _ rfl)
      have HX5 : Hid (LY w u2 p gl gs O no co zs A n c B m d ci ct ch ce cu cp cq) := by rw [hu2]; exact Lib.hid (HX1.out.below ((Below.refl _ _).alloc (Nat.le_refl _) _))
      try rw [← hge]
      clear hu2 hge HX1
      have lt_e := KE5.out.lt
      obtain ⟨r_e0, r_e1, r_e2, r_e3, r_e4, r_e5, r_e6, r_e7, r_e8⟩ := bc9 KE5.out
      have lt_s := HX5.out.S.lt
      obtain ⟨r_s0, r_s1, r_s2, r_s3, r_s4, r_s5, r_s6⟩ := bc7 HX5.out.S
      obtain ⟨⟨⟨ri, rt, ⟨rp, rq, rh, re, ru⟩⟩, rb⟩, hres⟩ : ∃ R, appR ci ct ch ce cu cp cq ex et ec es ek ea eb eg eh = R := ⟨_, rfl⟩
      obtain ⟨rn, hrn⟩ : ∃ k, rp.length = k := ⟨_, rfl⟩
      obtain ⟨rm, hrm⟩ : ∃ k, rq.length = k := ⟨_, rfl⟩
      have cc := specApplied_g A n c B m d ci ct ch ce cu cp cq ex et ec es ek ea eb eg eh u2 HX5.out.P.sl HX5.out.Q.sl HN.out HM.out (by unfold maxLen; omega) (by unfold maxLen; omega) (row_nil HX5.out.P) (row_nil HX5.out.Q) ri rt rh re ru rp rq rn rm rb ⟨hres, hrn, hrm⟩
      have HR := Lib.hid hres
      have HRN := Lib.hid hrn
      have HRM := Lib.hid hrm
      clear hres hrn hrm
      go_wp2_with fail
      refine cc.mono ?_
      rintro e u6 ⟨A6, c6, B6, d6, rfl, R6, R7, hap, b6⟩
      clear cc hap
      have z6 := b6.size
      have HX6 := Lib.hid (HX5.out.below b6)
      have KE6 := Lib.hid (KE5.out.below b6)
      have l6 := HX6.out.L.lt
      have l7 := HX6.out.S.lt
      have R6_ := Lib.hid R6
      have R7_ := Lib.hid R7
      have w5 := HX5.out.W.size
      have l5s := HX5.out.S.lt
      have l5l := HX5.out.L.lt
      have l5e := KE5.out.lt
      have oL5 := Lib.hid HX5.out.RO.lt
      clear R6 R7 b6 HX5 KE5
      clear lt_e r_e0 r_e1 r_e2 r_e3 r_e4 r_e5 r_e6 r_e7 r_e8
      clear lt_s r_s0 r_s1 r_s2 r_s3 r_s4 r_s5 r_s6
      cases rb with
      | false =>
        go_wp2
        refine ⟨⟨k - 1, O, no, co, zs, A, n, c, B, m, d, ci, ct, ch, ce, cu, cp, cq, by go_num, rfl, by omega, HSO, HN, HM, Lib.hid (HX6.out.below ((Below.refl _ _).alloc (Nat.le_refl _) _))⟩, by simp [intOf]; omega⟩

      | true =>
        go_upto_region 7 with fail
        obtain ⟨u7, hu7⟩ : ∃ x : World, x = (u6.alloc (.cells #[.int .i64 ri, .int .i64 rt, .slice A6 rn c6, .slice B6 rm d6, .int .i64 rh, .int .i64 re, .int .i64 ru] 29)) := ⟨_, rfl⟩
        rw [← hu7]
        obtain ⟨gn, hgn⟩ : ∃ g, g = u6.heap.size := ⟨_, rfl⟩
        have KN7 : Hid (Blk u7 gn 29 #[.int .i64 ri, .int .i64 rt, .slice A6 rn c6, .slice B6 rm d6, .int .i64 rh, .int .i64 re, .int .i64 ru]) := by rw [hu7, hgn]; exact Lib.hid (Blk.new_at _ _ _ _ rfl)
        have b7 : Below u6.heap.size u6 u7 := by rw [hu7]; exact ((Below.refl _ _).alloc (Nat.le_refl _) _)
        have HX7 := Lib.hid (HX6.out.below b7)
        have KE7 := Lib.hid (KE6.out.below b7)
        have RP7 := Lib.hid (R6_.out.below b7)
        have RQ7 := Lib.hid (R7_.out.below b7)
        have z7 : u6.heap.size < u7.heap.size := by rw [hu7]; simp
        have NOK := Lib.hid (appR_ok HR.out)
        have hs5 : u2.heap.size ≤ u7.heap.size := by omega
        try rw [← hgn]
        have lgn : u6.heap.size ≤ gn := by omega
        clear hu7 b7 HX6 KE6 R6_ R7_ hgn
        have lt_e := KE7.out.lt
        obtain ⟨r_e0, r_e1, r_e2, r_e3, r_e4, r_e5, r_e6, r_e7, r_e8⟩ := bc9 KE7.out
        have hnil : ∀ a, O = some a → a.block ≠ gn := fun a ha => by have := oL5.out a ha; omega
        go_wp2_with (at_builtin; refine wpList_append_row2 rfl _ _ 101 rfl 49 (.agg #[.int .i64 0, .int .i64 0, .int .i64 0, .int .i64 0, .int .i64 0, .int .i64 0, .int .i64 0, .int .i64 0, .int .i64 0]) 9 72 Try.underlying101 info_EntryS (by first | kernel_rfl | simp [Value.cells]) (by decide) w.heap.size O no co zs rfl (HX7.out.RO.alloc _) ⟨u7.heap.size, 0, none⟩ 1 1 [ex, et, ec, es, ek, ea, eb, eg, eh] rfl rfl (cell_nine_at _ _ _ _ _ _ _ _ _ _ _ _ rfl) (by unfold maxLen; omega) (by omega) (by have := HX7.out.W.size; simp; omega) ?_; intro O8 c8 u8 R8 b8 W8 L8; have KN8 := (KN7.out.alloc (.cells #[.int .i64 ex, .int .i64 et, .int .i64 ec, .int .i64 es, .int .i64 ek, .int .i64 ea, .int .i64 eb, .int .i64 eg, .int .i64 eh] 49)).wroteA W8 hnil; have KS8 := (HX7.out.S.alloc (.cells #[.int .i64 ex, .int .i64 et, .int .i64 ec, .int .i64 es, .int .i64 ek, .int .i64 ea, .int .i64 eb, .int .i64 eg, .int .i64 eh] 49)).wroteA W8 HX7.out.fs.o; have r_n0 : u8.cell? ⟨gn, 0, none⟩ = some (.int .i64 ri) := KN8.cell 0; have r_n1 : u8.cell? ⟨gn, 1, none⟩ = some (.int .i64 rt) := KN8.cell 1; have r_n2 : u8.cell? ⟨gn, 2, none⟩ = some (.slice A6 rn c6) := KN8.cell 2; have r_n3 : u8.cell? ⟨gn, 3, none⟩ = some (.slice B6 rm d6) := KN8.cell 3; have r_n4 : u8.cell? ⟨gn, 4, none⟩ = some (.int .i64 rh) := KN8.cell 4; have r_n5 : u8.cell? ⟨gn, 5, none⟩ = some (.int .i64 re) := KN8.cell 5; have r_n6 : u8.cell? ⟨gn, 6, none⟩ = some (.int .i64 ru) := KN8.cell 6; have r_s0 : u8.cell? ⟨gs, 0, none⟩ = some (.int .i64 ci) := KS8.cell 0; have z_s0 : u8.frozen? ⟨gs, 0, none⟩ = false := KS8.frozen 0; have r_s1 : u8.cell? ⟨gs, 1, none⟩ = some (.int .i64 ct) := KS8.cell 1; have z_s1 : u8.frozen? ⟨gs, 1, none⟩ = false := KS8.frozen 1; have r_s2 : u8.cell? ⟨gs, 2, none⟩ = some (.slice A n c) := KS8.cell 2; have z_s2 : u8.frozen? ⟨gs, 2, none⟩ = false := KS8.frozen 2; have r_s3 : u8.cell? ⟨gs, 3, none⟩ = some (.slice B m d) := KS8.cell 3; have z_s3 : u8.frozen? ⟨gs, 3, none⟩ = false := KS8.frozen 3; have r_s4 : u8.cell? ⟨gs, 4, none⟩ = some (.int .i64 ch) := KS8.cell 4; have z_s4 : u8.frozen? ⟨gs, 4, none⟩ = false := KS8.frozen 4; have r_s5 : u8.cell? ⟨gs, 5, none⟩ = some (.int .i64 ce) := KS8.cell 5; have z_s5 : u8.frozen? ⟨gs, 5, none⟩ = false := KS8.frozen 5; have r_s6 : u8.cell? ⟨gs, 6, none⟩ = some (.int .i64 cu) := KS8.cell 6; have z_s6 : u8.frozen? ⟨gs, 6, none⟩ = false := KS8.frozen 6; have lt_n := KN8.lt; have lt_s := KS8.lt)
        refine ⟨⟨k - 1, O8, no + 1, c8, _, A6, rn, c6, B6, rm, d6, ri, rt, rh, re, ru, rp, rq, by go_num, rfl, by omega, NOK, HRN, HRM, Lib.hid (ly_next HX7.out hp wgl wgs hgls l5l l5s oL5.out hs5 RP7.out RQ7.out R8 b8 W8 L8 KS8)⟩, by simp [intOf]; omega⟩

    · have hk1 : ¬ (0 : Int) < (k : Int) := by omega
      have lt_s := HX.out.S.lt
      obtain ⟨r_s0, r_s1, r_s2, r_s3, r_s4, r_s5, r_s6⟩ := bc7 HX.out.S
      have lt_l := HX.out.L.lt
      have r_l0 : wr.cell? ⟨gl, 0, none⟩ = some (.int .i64 0) := HX.out.L.cell 0
      have z_l0 : wr.frozen? ⟨gl, 0, none⟩ = false := HX.out.L.frozen 0
      have r_l1 : wr.cell? ⟨gl, 1, none⟩ = some (.int .i64 0) := HX.out.L.cell 1
      have z_l1 : wr.frozen? ⟨gl, 1, none⟩ = false := HX.out.L.frozen 1
      have r_l2 : wr.cell? ⟨gl, 2, none⟩ = some (.slice none 0 0) := HX.out.L.cell 2
      have z_l2 : wr.frozen? ⟨gl, 2, none⟩ = false := HX.out.L.frozen 2
      have r_l3 : wr.cell? ⟨gl, 3, none⟩ = some (.slice none 0 0) := HX.out.L.cell 3
      have z_l3 : wr.frozen? ⟨gl, 3, none⟩ = false := HX.out.L.frozen 3
      have r_l4 : wr.cell? ⟨gl, 4, none⟩ = some (.int .i64 0) := HX.out.L.cell 4
      have z_l4 : wr.frozen? ⟨gl, 4, none⟩ = false := HX.out.L.frozen 4
      have r_l5 : wr.cell? ⟨gl, 5, none⟩ = some (.int .i64 0) := HX.out.L.cell 5
      have z_l5 : wr.frozen? ⟨gl, 5, none⟩ = false := HX.out.L.frozen 5
      have r_l6 : wr.cell? ⟨gl, 6, none⟩ = some (.int .i64 0) := HX.out.L.cell 6
      have z_l6 : wr.frozen? ⟨gl, 6, none⟩ = false := HX.out.L.frozen 6
      go_wp2_with fail
      go_region
      all_goals go_wp2_with fail
      all_goals refine bodyPost_ret (v := .tuple #[.slice O no co, .agg #[.int .i64 ci, .int .i64 ct, .slice A n c, .slice B m d, .int .i64 ch, .int .i64 ce, .int .i64 cu]]) (by simp [results, Try.results67, go_sem, *]) rfl ?_
      all_goals exact ⟨O, no, co, A, n, c, B, m, d, ci, ct, ch, ce, cu, cp, cq, rfl, HN.out, HM.out, by omega, by omega, Row.drew (row_far7 HX.out.P HX.out.fl.a _ _ _ _ _ _ _), Row.drew (row_far7 HX.out.Q HX.out.fl.b _ _ _ _ _ _ _), LC.drew (lc_far7 HX.out.D (by omega) _ _ _ _ _ _ _), wrote_grow HX.out.W (Below.drew (below_far7 (Below.refl _ _) wgl _ _ _ _ _ _ _)) (Nat.le_refl _)⟩

end Go.Proofs.Ytokklkmibjpjnaa

/- Part 8 of what the claim rests on: T6. No condition of its own. -/
import Derived.Test.YtokklkmibjpjnaaGreatBd7
namespace Go.Proofs.YtokklkmibjpjnaaGreat
set_option linter.unusedSimpArgs false
set_option linter.unusedVariables false
attribute [local go_sem] n_lt2 n_lt3 n_lt4 n_le2 n_le3
open Go.RowKit
attribute [local go_sem] Ext.cell Ext.frozen
set_option maxRecDepth 100000 in
set_option maxHeartbeats 4000000 in
theorem specApp_bad (A : Option Addr) (n c : Nat) (B : Option Addr) (m d : Nat) (i0 t0 l0 l1 l2 : Int) (pl : List Pr) (ql : List Jb) (ex et ec es ek ea eb eg eh : Int) (w : World) (hP : Sl w 2 A n (PR pl)) (hQ : Sl w 5 B m (JB ql)) (hl : pl.length = n) (hr : ql.length = m) (hn : n ≤ maxLen) (hm : m ≤ maxLen) (hA : A = none → n = 0 ∧ c = 0) (hB : B = none → m = 0 ∧ d = 0) (hS : Hid (stateB i0 t0 l0 l1 l2 pl ql = false)) :
    Calls Tryz.prog 7 #[.agg #[.int .i64 i0, .int .i64 t0, .slice A n c, .slice B m d, .int .i64 l0, .int .i64 l1, .int .i64 l2], .agg #[.int .i64 ex, .int .i64 et, .int .i64 ec, .int .i64 es, .int .i64 ek, .int .i64 ea, .int .i64 eb, .int .i64 eg, .int .i64 eh]] w (RetStateV w 0 0 0 0 0 0 [] 0 [] (.bool false)) := by
  have HP := Lib.hid hP
  have HQ := Lib.hid hQ
  have HA := Lib.hid hA
  have HB := Lib.hid hB
  have hL := Lib.hid hl
  have hR := Lib.hid hr
  clear hP hQ hA hB hl hr
  go_enter Tryz.func7, Tryz.ntmps7
  go_wp2_with fail
  refine calls_named ?_
  rintro v0 hv0
  have f0 : Below w.heap.size w v0 := by rw [hv0]; (repeat' (first | (with_reducible exact Below.refl _ _) | (with_reducible assumption) | (with_reducible refine Below.alloc ?_ ?_ _) | (with_reducible refine Below.drew ?_) | (with_reducible refine Below.setCell ?_ ?_ _) | (with_reducible refine bstep (by assumption) ?_ ?_) | (with_reducible exact Nat.le_refl _) | omega | (simp [*]; done) | (simp [*]; omega)))
  have z0 : w.heap.size + 3 ≤ v0.heap.size := by rw [hv0]; simp [size_set]
  have HP_0 := Lib.hid (HP.out.below f0)
  have HP_lt := Lib.hid (fun hn => HP.out.lt hn)
  have HQ_0 := Lib.hid (HQ.out.below f0)
  have HQ_lt := Lib.hid (fun hn => HQ.out.lt hn)
  have Ha_0 : Hid (Blk v0 w.heap.size 37 #[.int .i64 i0, .int .i64 t0, .slice A n c, .slice B m d, .int .i64 l0, .int .i64 l1, .int .i64 l2]) := by rw [hv0]; exact ((Blk.new_at _ _ _ _ (by simp)).alloc _).alloc _
  have Hb_0 : Hid (Blk v0 (w.heap.size + 1) 43 #[.int .i64 ex, .int .i64 et, .int .i64 ec, .int .i64 es, .int .i64 ek, .int .i64 ea, .int .i64 eb, .int .i64 eg, .int .i64 eh]) := by rw [hv0]; exact (Blk.new_at _ _ _ _ (by simp)).alloc _
  have Hr_0 : Hid (Blk v0 (w.heap.size + 1 + 1) 37 #[.int .i64 0, .int .i64 0, .slice none 0 0, .slice none 0 0, .int .i64 0, .int .i64 0, .int .i64 0]) := by rw [hv0]; exact Blk.new_at _ _ _ _ (by simp)
  clear hv0
  generalize hg2 : w.heap.size + 1 + 1 = g2 at *
  generalize hg1 : w.heap.size + 1 = g1 at *
  have lg1 : w.heap.size < g1 := by omega
  have lg2 : g1 < g2 := by omega
  have lgz : g2 < v0.heap.size := by omega
  have nq1x0 : ¬ g1 = w.heap.size := by omega
  have nq0x1 : ¬ w.heap.size = g1 := by omega
  have nq2x0 : ¬ g2 = w.heap.size := by omega
  have nq0x2 : ¬ w.heap.size = g2 := by omega
  have nq2x1 : ¬ g2 = g1 := by omega
  have nq1x2 : ¬ g1 = g2 := by omega
  clear hg1 hg2
  have lt_a := Ha_0.out.lt
  have r_a0 : v0.cell? ⟨w.heap.size, 0, none⟩ = some (.int .i64 i0) := Ha_0.out.cell 0
  have r_a1 : v0.cell? ⟨w.heap.size, 1, none⟩ = some (.int .i64 t0) := Ha_0.out.cell 1
  have r_a2 : v0.cell? ⟨w.heap.size, 2, none⟩ = some (.slice A n c) := Ha_0.out.cell 2
  have r_a3 : v0.cell? ⟨w.heap.size, 3, none⟩ = some (.slice B m d) := Ha_0.out.cell 3
  have r_a4 : v0.cell? ⟨w.heap.size, 4, none⟩ = some (.int .i64 l0) := Ha_0.out.cell 4
  have r_a5 : v0.cell? ⟨w.heap.size, 5, none⟩ = some (.int .i64 l1) := Ha_0.out.cell 5
  have r_a6 : v0.cell? ⟨w.heap.size, 6, none⟩ = some (.int .i64 l2) := Ha_0.out.cell 6
  have lt_b := Hb_0.out.lt
  have r_b0 : v0.cell? ⟨g1, 0, none⟩ = some (.int .i64 ex) := Hb_0.out.cell 0
  have r_b1 : v0.cell? ⟨g1, 1, none⟩ = some (.int .i64 et) := Hb_0.out.cell 1
  have r_b2 : v0.cell? ⟨g1, 2, none⟩ = some (.int .i64 ec) := Hb_0.out.cell 2
  have r_b3 : v0.cell? ⟨g1, 3, none⟩ = some (.int .i64 es) := Hb_0.out.cell 3
  have r_b4 : v0.cell? ⟨g1, 4, none⟩ = some (.int .i64 ek) := Hb_0.out.cell 4
  have r_b5 : v0.cell? ⟨g1, 5, none⟩ = some (.int .i64 ea) := Hb_0.out.cell 5
  have r_b6 : v0.cell? ⟨g1, 6, none⟩ = some (.int .i64 eb) := Hb_0.out.cell 6
  have r_b7 : v0.cell? ⟨g1, 7, none⟩ = some (.int .i64 eg) := Hb_0.out.cell 7
  have r_b8 : v0.cell? ⟨g1, 8, none⟩ = some (.int .i64 eh) := Hb_0.out.cell 8
  have lt_r := Hr_0.out.lt
  have r_r0 : v0.cell? ⟨g2, 0, none⟩ = some (.int .i64 0) := Hr_0.out.cell 0
  have r_r1 : v0.cell? ⟨g2, 1, none⟩ = some (.int .i64 0) := Hr_0.out.cell 1
  have r_r2 : v0.cell? ⟨g2, 2, none⟩ = some (.slice none 0 0) := Hr_0.out.cell 2
  have r_r3 : v0.cell? ⟨g2, 3, none⟩ = some (.slice none 0 0) := Hr_0.out.cell 3
  have r_r4 : v0.cell? ⟨g2, 4, none⟩ = some (.int .i64 0) := Hr_0.out.cell 4
  have r_r5 : v0.cell? ⟨g2, 5, none⟩ = some (.int .i64 0) := Hr_0.out.cell 5
  have r_r6 : v0.cell? ⟨g2, 6, none⟩ = some (.int .i64 0) := Hr_0.out.cell 6
  have z_r0 := Hr_0.out.frozen 0
  have z_r1 := Hr_0.out.frozen 1
  have z_r2 := Hr_0.out.frozen 2
  have z_r3 := Hr_0.out.frozen 3
  have z_r4 := Hr_0.out.frozen 4
  have z_r5 := Hr_0.out.frozen 5
  have z_r6 := Hr_0.out.frozen 6
  have cc := specStateOk_any A n c B m d i0 t0 l0 l1 l2 pl ql v0 HP_0.out HQ_0.out hL.out hR.out hn hm
  rw [hS.out] at cc
  refine (cc).mono ?_
  rintro e v1 ⟨rfl, b1⟩
  have f1 := bthen f0 b1
  have z1 := b1.size
  have HP_1 := Lib.hid (HP_0.out.below b1)
  have HQ_1 := Lib.hid (HQ_0.out.below b1)
  have Ha_1 := Lib.hid (Ha_0.out.below b1)
  have Hb_1 := Lib.hid (Hb_0.out.below b1)
  have Hr_1 := Lib.hid (Hr_0.out.below b1)
  clear lt_a r_a0 r_a1 r_a2 r_a3 r_a4 r_a5 r_a6 lt_b r_b0 r_b1 r_b2 r_b3 r_b4 r_b5 r_b6 r_b7 r_b8 lt_r r_r0 r_r1 r_r2 r_r3 r_r4 r_r5 r_r6 z_r0 z_r1 z_r2 z_r3 z_r4 z_r5 z_r6
  clear HP_0 HQ_0 Ha_0 Hb_0 Hr_0
  clear cc
  have lt_a := Ha_1.out.lt
  have r_a0 : v1.cell? ⟨w.heap.size, 0, none⟩ = some (.int .i64 i0) := Ha_1.out.cell 0
  have r_a1 : v1.cell? ⟨w.heap.size, 1, none⟩ = some (.int .i64 t0) := Ha_1.out.cell 1
  have r_a2 : v1.cell? ⟨w.heap.size, 2, none⟩ = some (.slice A n c) := Ha_1.out.cell 2
  have r_a3 : v1.cell? ⟨w.heap.size, 3, none⟩ = some (.slice B m d) := Ha_1.out.cell 3
  have r_a4 : v1.cell? ⟨w.heap.size, 4, none⟩ = some (.int .i64 l0) := Ha_1.out.cell 4
  have r_a5 : v1.cell? ⟨w.heap.size, 5, none⟩ = some (.int .i64 l1) := Ha_1.out.cell 5
  have r_a6 : v1.cell? ⟨w.heap.size, 6, none⟩ = some (.int .i64 l2) := Ha_1.out.cell 6
  have lt_b := Hb_1.out.lt
  have r_b0 : v1.cell? ⟨g1, 0, none⟩ = some (.int .i64 ex) := Hb_1.out.cell 0
  have r_b1 : v1.cell? ⟨g1, 1, none⟩ = some (.int .i64 et) := Hb_1.out.cell 1
  have r_b2 : v1.cell? ⟨g1, 2, none⟩ = some (.int .i64 ec) := Hb_1.out.cell 2
  have r_b3 : v1.cell? ⟨g1, 3, none⟩ = some (.int .i64 es) := Hb_1.out.cell 3
  have r_b4 : v1.cell? ⟨g1, 4, none⟩ = some (.int .i64 ek) := Hb_1.out.cell 4
  have r_b5 : v1.cell? ⟨g1, 5, none⟩ = some (.int .i64 ea) := Hb_1.out.cell 5
  have r_b6 : v1.cell? ⟨g1, 6, none⟩ = some (.int .i64 eb) := Hb_1.out.cell 6
  have r_b7 : v1.cell? ⟨g1, 7, none⟩ = some (.int .i64 eg) := Hb_1.out.cell 7
  have r_b8 : v1.cell? ⟨g1, 8, none⟩ = some (.int .i64 eh) := Hb_1.out.cell 8
  have lt_r := Hr_1.out.lt
  have r_r0 : v1.cell? ⟨g2, 0, none⟩ = some (.int .i64 0) := Hr_1.out.cell 0
  have r_r1 : v1.cell? ⟨g2, 1, none⟩ = some (.int .i64 0) := Hr_1.out.cell 1
  have r_r2 : v1.cell? ⟨g2, 2, none⟩ = some (.slice none 0 0) := Hr_1.out.cell 2
  have r_r3 : v1.cell? ⟨g2, 3, none⟩ = some (.slice none 0 0) := Hr_1.out.cell 3
  have r_r4 : v1.cell? ⟨g2, 4, none⟩ = some (.int .i64 0) := Hr_1.out.cell 4
  have r_r5 : v1.cell? ⟨g2, 5, none⟩ = some (.int .i64 0) := Hr_1.out.cell 5
  have r_r6 : v1.cell? ⟨g2, 6, none⟩ = some (.int .i64 0) := Hr_1.out.cell 6
  have z_r0 := Hr_1.out.frozen 0
  have z_r1 := Hr_1.out.frozen 1
  have z_r2 := Hr_1.out.frozen 2
  have z_r3 := Hr_1.out.frozen 3
  have z_r4 := Hr_1.out.frozen 4
  have z_r5 := Hr_1.out.frozen 5
  have z_r6 := Hr_1.out.frozen 6
  go_wp21
  refine bodyPost_ret (v := .tuple #[.agg #[.int .i64 0, .int .i64 0, .slice none 0 0, .slice none 0 0, .int .i64 0, .int .i64 0, .int .i64 0], .bool false]) (by simp [results, Tryz.results7, go_sem, *]) rfl ?_
  exact RetStateV.mk rfl rfl (Row.nil _ _ _ _) (Row.nil _ _ _ _) (fun a b ha => by cases ha) (by (repeat' (first | (with_reducible exact Below.refl _ _) | (with_reducible assumption) | (with_reducible refine Below.alloc ?_ ?_ _) | (with_reducible refine Below.drew ?_) | (with_reducible refine Below.setCell ?_ ?_ _) | (with_reducible refine bstep (by assumption) ?_ ?_) | (with_reducible exact Nat.le_refl _) | omega | (simp [*]; done) | (simp [*]; omega))))
set_option maxRecDepth 100000 in
set_option maxHeartbeats 4000000 in
theorem specApp_not (A : Option Addr) (n c : Nat) (B : Option Addr) (m d : Nat) (i0 t0 l0 l1 l2 : Int) (pl : List Pr) (ql : List Jb) (ex et ec es ek ea eb eg eh : Int) (w : World) (hP : Sl w 2 A n (PR pl)) (hQ : Sl w 5 B m (JB ql)) (hl : pl.length = n) (hr : ql.length = m) (hn : n ≤ maxLen) (hm : m ≤ maxLen) (hA : A = none → n = 0 ∧ c = 0) (hB : B = none → m = 0 ∧ d = 0) (hS : Hid (stateB i0 t0 l0 l1 l2 pl ql = true)) (hn10 : n ≤ 10) (hm8 : m ≤ 8) (hx : Hid (effI i0 t0 l0 l1 l2 pl ql ex et ec es ek ea eb eg eh = (-1))) :
    Calls Tryz.prog 7 #[.agg #[.int .i64 i0, .int .i64 t0, .slice A n c, .slice B m d, .int .i64 l0, .int .i64 l1, .int .i64 l2], .agg #[.int .i64 ex, .int .i64 et, .int .i64 ec, .int .i64 es, .int .i64 ek, .int .i64 ea, .int .i64 eb, .int .i64 eg, .int .i64 eh]] w (RetStateV w i0 t0 l0 l1 l2 pl.length (PR pl) ql.length (JB ql) (.bool false)) := by
  have HP := Lib.hid hP
  have HQ := Lib.hid hQ
  have HA := Lib.hid hA
  have HB := Lib.hid hB
  have hL := Lib.hid hl
  have hR := Lib.hid hr
  clear hP hQ hA hB hl hr
  go_enter Tryz.func7, Tryz.ntmps7
  go_wp2_with fail
  refine calls_named ?_
  rintro v0 hv0
  have f0 : Below w.heap.size w v0 := by rw [hv0]; (repeat' (first | (with_reducible exact Below.refl _ _) | (with_reducible assumption) | (with_reducible refine Below.alloc ?_ ?_ _) | (with_reducible refine Below.drew ?_) | (with_reducible refine Below.setCell ?_ ?_ _) | (with_reducible refine bstep (by assumption) ?_ ?_) | (with_reducible exact Nat.le_refl _) | omega | (simp [*]; done) | (simp [*]; omega)))
  have z0 : w.heap.size + 3 ≤ v0.heap.size := by rw [hv0]; simp [size_set]
  have HP_0 := Lib.hid (HP.out.below f0)
  have HP_lt := Lib.hid (fun hn => HP.out.lt hn)
  have HQ_0 := Lib.hid (HQ.out.below f0)
  have HQ_lt := Lib.hid (fun hn => HQ.out.lt hn)
  have Ha_0 : Hid (Blk v0 w.heap.size 37 #[.int .i64 i0, .int .i64 t0, .slice A n c, .slice B m d, .int .i64 l0, .int .i64 l1, .int .i64 l2]) := by rw [hv0]; exact ((Blk.new_at _ _ _ _ (by simp)).alloc _).alloc _
  have Hb_0 : Hid (Blk v0 (w.heap.size + 1) 43 #[.int .i64 ex, .int .i64 et, .int .i64 ec, .int .i64 es, .int .i64 ek, .int .i64 ea, .int .i64 eb, .int .i64 eg, .int .i64 eh]) := by rw [hv0]; exact (Blk.new_at _ _ _ _ (by simp)).alloc _
  have Hr_0 : Hid (Blk v0 (w.heap.size + 1 + 1) 37 #[.int .i64 0, .int .i64 0, .slice none 0 0, .slice none 0 0, .int .i64 0, .int .i64 0, .int .i64 0]) := by rw [hv0]; exact Blk.new_at _ _ _ _ (by simp)
  clear hv0
  generalize hg2 : w.heap.size + 1 + 1 = g2 at *
  generalize hg1 : w.heap.size + 1 = g1 at *
  have lg1 : w.heap.size < g1 := by omega
  have lg2 : g1 < g2 := by omega
  have lgz : g2 < v0.heap.size := by omega
  have nq1x0 : ¬ g1 = w.heap.size := by omega
  have nq0x1 : ¬ w.heap.size = g1 := by omega
  have nq2x0 : ¬ g2 = w.heap.size := by omega
  have nq0x2 : ¬ w.heap.size = g2 := by omega
  have nq2x1 : ¬ g2 = g1 := by omega
  have nq1x2 : ¬ g1 = g2 := by omega
  clear hg1 hg2
  have lt_a := Ha_0.out.lt
  have r_a0 : v0.cell? ⟨w.heap.size, 0, none⟩ = some (.int .i64 i0) := Ha_0.out.cell 0
  have r_a1 : v0.cell? ⟨w.heap.size, 1, none⟩ = some (.int .i64 t0) := Ha_0.out.cell 1
  have r_a2 : v0.cell? ⟨w.heap.size, 2, none⟩ = some (.slice A n c) := Ha_0.out.cell 2
  have r_a3 : v0.cell? ⟨w.heap.size, 3, none⟩ = some (.slice B m d) := Ha_0.out.cell 3
  have r_a4 : v0.cell? ⟨w.heap.size, 4, none⟩ = some (.int .i64 l0) := Ha_0.out.cell 4
  have r_a5 : v0.cell? ⟨w.heap.size, 5, none⟩ = some (.int .i64 l1) := Ha_0.out.cell 5
  have r_a6 : v0.cell? ⟨w.heap.size, 6, none⟩ = some (.int .i64 l2) := Ha_0.out.cell 6
  have lt_b := Hb_0.out.lt
  have r_b0 : v0.cell? ⟨g1, 0, none⟩ = some (.int .i64 ex) := Hb_0.out.cell 0
  have r_b1 : v0.cell? ⟨g1, 1, none⟩ = some (.int .i64 et) := Hb_0.out.cell 1
  have r_b2 : v0.cell? ⟨g1, 2, none⟩ = some (.int .i64 ec) := Hb_0.out.cell 2
  have r_b3 : v0.cell? ⟨g1, 3, none⟩ = some (.int .i64 es) := Hb_0.out.cell 3
  have r_b4 : v0.cell? ⟨g1, 4, none⟩ = some (.int .i64 ek) := Hb_0.out.cell 4
  have r_b5 : v0.cell? ⟨g1, 5, none⟩ = some (.int .i64 ea) := Hb_0.out.cell 5
  have r_b6 : v0.cell? ⟨g1, 6, none⟩ = some (.int .i64 eb) := Hb_0.out.cell 6
  have r_b7 : v0.cell? ⟨g1, 7, none⟩ = some (.int .i64 eg) := Hb_0.out.cell 7
  have r_b8 : v0.cell? ⟨g1, 8, none⟩ = some (.int .i64 eh) := Hb_0.out.cell 8
  have lt_r := Hr_0.out.lt
  have r_r0 : v0.cell? ⟨g2, 0, none⟩ = some (.int .i64 0) := Hr_0.out.cell 0
  have r_r1 : v0.cell? ⟨g2, 1, none⟩ = some (.int .i64 0) := Hr_0.out.cell 1
  have r_r2 : v0.cell? ⟨g2, 2, none⟩ = some (.slice none 0 0) := Hr_0.out.cell 2
  have r_r3 : v0.cell? ⟨g2, 3, none⟩ = some (.slice none 0 0) := Hr_0.out.cell 3
  have r_r4 : v0.cell? ⟨g2, 4, none⟩ = some (.int .i64 0) := Hr_0.out.cell 4
  have r_r5 : v0.cell? ⟨g2, 5, none⟩ = some (.int .i64 0) := Hr_0.out.cell 5
  have r_r6 : v0.cell? ⟨g2, 6, none⟩ = some (.int .i64 0) := Hr_0.out.cell 6
  have z_r0 := Hr_0.out.frozen 0
  have z_r1 := Hr_0.out.frozen 1
  have z_r2 := Hr_0.out.frozen 2
  have z_r3 := Hr_0.out.frozen 3
  have z_r4 := Hr_0.out.frozen 4
  have z_r5 := Hr_0.out.frozen 5
  have z_r6 := Hr_0.out.frozen 6
  have cc := specStateOk_any A n c B m d i0 t0 l0 l1 l2 pl ql v0 HP_0.out HQ_0.out hL.out hR.out hn hm
  rw [hS.out] at cc
  refine (cc).mono ?_
  rintro e v1 ⟨rfl, b1⟩
  have f1 := bthen f0 b1
  have z1 := b1.size
  have HP_1 := Lib.hid (HP_0.out.below b1)
  have HQ_1 := Lib.hid (HQ_0.out.below b1)
  have Ha_1 := Lib.hid (Ha_0.out.below b1)
  have Hb_1 := Lib.hid (Hb_0.out.below b1)
  have Hr_1 := Lib.hid (Hr_0.out.below b1)
  clear lt_a r_a0 r_a1 r_a2 r_a3 r_a4 r_a5 r_a6 lt_b r_b0 r_b1 r_b2 r_b3 r_b4 r_b5 r_b6 r_b7 r_b8 lt_r r_r0 r_r1 r_r2 r_r3 r_r4 r_r5 r_r6 z_r0 z_r1 z_r2 z_r3 z_r4 z_r5 z_r6
  clear HP_0 HQ_0 Ha_0 Hb_0 Hr_0
  clear cc
  have lt_a := Ha_1.out.lt
  have r_a0 : v1.cell? ⟨w.heap.size, 0, none⟩ = some (.int .i64 i0) := Ha_1.out.cell 0
  have r_a1 : v1.cell? ⟨w.heap.size, 1, none⟩ = some (.int .i64 t0) := Ha_1.out.cell 1
  have r_a2 : v1.cell? ⟨w.heap.size, 2, none⟩ = some (.slice A n c) := Ha_1.out.cell 2
  have r_a3 : v1.cell? ⟨w.heap.size, 3, none⟩ = some (.slice B m d) := Ha_1.out.cell 3
  have r_a4 : v1.cell? ⟨w.heap.size, 4, none⟩ = some (.int .i64 l0) := Ha_1.out.cell 4
  have r_a5 : v1.cell? ⟨w.heap.size, 5, none⟩ = some (.int .i64 l1) := Ha_1.out.cell 5
  have r_a6 : v1.cell? ⟨w.heap.size, 6, none⟩ = some (.int .i64 l2) := Ha_1.out.cell 6
  have lt_b := Hb_1.out.lt
  have r_b0 : v1.cell? ⟨g1, 0, none⟩ = some (.int .i64 ex) := Hb_1.out.cell 0
  have r_b1 : v1.cell? ⟨g1, 1, none⟩ = some (.int .i64 et) := Hb_1.out.cell 1
  have r_b2 : v1.cell? ⟨g1, 2, none⟩ = some (.int .i64 ec) := Hb_1.out.cell 2
  have r_b3 : v1.cell? ⟨g1, 3, none⟩ = some (.int .i64 es) := Hb_1.out.cell 3
  have r_b4 : v1.cell? ⟨g1, 4, none⟩ = some (.int .i64 ek) := Hb_1.out.cell 4
  have r_b5 : v1.cell? ⟨g1, 5, none⟩ = some (.int .i64 ea) := Hb_1.out.cell 5
  have r_b6 : v1.cell? ⟨g1, 6, none⟩ = some (.int .i64 eb) := Hb_1.out.cell 6
  have r_b7 : v1.cell? ⟨g1, 7, none⟩ = some (.int .i64 eg) := Hb_1.out.cell 7
  have r_b8 : v1.cell? ⟨g1, 8, none⟩ = some (.int .i64 eh) := Hb_1.out.cell 8
  have lt_r := Hr_1.out.lt
  have r_r0 : v1.cell? ⟨g2, 0, none⟩ = some (.int .i64 0) := Hr_1.out.cell 0
  have r_r1 : v1.cell? ⟨g2, 1, none⟩ = some (.int .i64 0) := Hr_1.out.cell 1
  have r_r2 : v1.cell? ⟨g2, 2, none⟩ = some (.slice none 0 0) := Hr_1.out.cell 2
  have r_r3 : v1.cell? ⟨g2, 3, none⟩ = some (.slice none 0 0) := Hr_1.out.cell 3
  have r_r4 : v1.cell? ⟨g2, 4, none⟩ = some (.int .i64 0) := Hr_1.out.cell 4
  have r_r5 : v1.cell? ⟨g2, 5, none⟩ = some (.int .i64 0) := Hr_1.out.cell 5
  have r_r6 : v1.cell? ⟨g2, 6, none⟩ = some (.int .i64 0) := Hr_1.out.cell 6
  have z_r0 := Hr_1.out.frozen 0
  have z_r1 := Hr_1.out.frozen 1
  have z_r2 := Hr_1.out.frozen 2
  have z_r3 := Hr_1.out.frozen 3
  have z_r4 := Hr_1.out.frozen 4
  have z_r5 := Hr_1.out.frozen 5
  have z_r6 := Hr_1.out.frozen 6
  go_wp2_with fail
  refine (l17Copy_any A n c B m d i0 t0 l0 l1 l2 pl ql _ HP_1.out HQ_1.out hL.out hR.out (by omega) (by omega) HA.out HB.out).mono ?_
  rintro e v2 ⟨A5, c5, B5, d5, rfl, R5, R6, hap, b2⟩
  have HAP := Lib.hid hap
  have Lx := Lib.hid R5.lt
  have Ly := Lib.hid R6.lt
  clear hap
  have f2 := bthen f1 b2
  have z2 := b2.size
  have HP_2 := Lib.hid (HP_1.out.below b2)
  have HQ_2 := Lib.hid (HQ_1.out.below b2)
  have Ha_2 := Lib.hid (Ha_1.out.below b2)
  have Hb_2 := Lib.hid (Hb_1.out.below b2)
  have Hr_2 := Lib.hid (Hr_1.out.below b2)
  clear lt_a r_a0 r_a1 r_a2 r_a3 r_a4 r_a5 r_a6 lt_b r_b0 r_b1 r_b2 r_b3 r_b4 r_b5 r_b6 r_b7 r_b8 lt_r r_r0 r_r1 r_r2 r_r3 r_r4 r_r5 r_r6 z_r0 z_r1 z_r2 z_r3 z_r4 z_r5 z_r6
  clear HP_1 HQ_1 Ha_1 Hb_1 Hr_1
  have Hx_2 := Lib.hid R5
  clear R5
  have Hy_2 := Lib.hid R6
  clear R6
  have lt_a := Ha_2.out.lt
  have r_a0 : v2.cell? ⟨w.heap.size, 0, none⟩ = some (.int .i64 i0) := Ha_2.out.cell 0
  have r_a1 : v2.cell? ⟨w.heap.size, 1, none⟩ = some (.int .i64 t0) := Ha_2.out.cell 1
  have r_a2 : v2.cell? ⟨w.heap.size, 2, none⟩ = some (.slice A n c) := Ha_2.out.cell 2
  have r_a3 : v2.cell? ⟨w.heap.size, 3, none⟩ = some (.slice B m d) := Ha_2.out.cell 3
  have r_a4 : v2.cell? ⟨w.heap.size, 4, none⟩ = some (.int .i64 l0) := Ha_2.out.cell 4
  have r_a5 : v2.cell? ⟨w.heap.size, 5, none⟩ = some (.int .i64 l1) := Ha_2.out.cell 5
  have r_a6 : v2.cell? ⟨w.heap.size, 6, none⟩ = some (.int .i64 l2) := Ha_2.out.cell 6
  have lt_b := Hb_2.out.lt
  have r_b0 : v2.cell? ⟨g1, 0, none⟩ = some (.int .i64 ex) := Hb_2.out.cell 0
  have r_b1 : v2.cell? ⟨g1, 1, none⟩ = some (.int .i64 et) := Hb_2.out.cell 1
  have r_b2 : v2.cell? ⟨g1, 2, none⟩ = some (.int .i64 ec) := Hb_2.out.cell 2
  have r_b3 : v2.cell? ⟨g1, 3, none⟩ = some (.int .i64 es) := Hb_2.out.cell 3
  have r_b4 : v2.cell? ⟨g1, 4, none⟩ = some (.int .i64 ek) := Hb_2.out.cell 4
  have r_b5 : v2.cell? ⟨g1, 5, none⟩ = some (.int .i64 ea) := Hb_2.out.cell 5
  have r_b6 : v2.cell? ⟨g1, 6, none⟩ = some (.int .i64 eb) := Hb_2.out.cell 6
  have r_b7 : v2.cell? ⟨g1, 7, none⟩ = some (.int .i64 eg) := Hb_2.out.cell 7
  have r_b8 : v2.cell? ⟨g1, 8, none⟩ = some (.int .i64 eh) := Hb_2.out.cell 8
  have lt_r := Hr_2.out.lt
  have r_r0 : v2.cell? ⟨g2, 0, none⟩ = some (.int .i64 0) := Hr_2.out.cell 0
  have r_r1 : v2.cell? ⟨g2, 1, none⟩ = some (.int .i64 0) := Hr_2.out.cell 1
  have r_r2 : v2.cell? ⟨g2, 2, none⟩ = some (.slice none 0 0) := Hr_2.out.cell 2
  have r_r3 : v2.cell? ⟨g2, 3, none⟩ = some (.slice none 0 0) := Hr_2.out.cell 3
  have r_r4 : v2.cell? ⟨g2, 4, none⟩ = some (.int .i64 0) := Hr_2.out.cell 4
  have r_r5 : v2.cell? ⟨g2, 5, none⟩ = some (.int .i64 0) := Hr_2.out.cell 5
  have r_r6 : v2.cell? ⟨g2, 6, none⟩ = some (.int .i64 0) := Hr_2.out.cell 6
  have z_r0 := Hr_2.out.frozen 0
  have z_r1 := Hr_2.out.frozen 1
  have z_r2 := Hr_2.out.frozen 2
  have z_r3 := Hr_2.out.frozen 3
  have z_r4 := Hr_2.out.frozen 4
  have z_r5 := Hr_2.out.frozen 5
  have z_r6 := Hr_2.out.frozen 6
  go_wp2_with fail
  refine calls_named ?_
  rintro v3 hv3
  have f3 : Below w.heap.size w v3 := by rw [hv3]; (repeat' (first | (with_reducible exact Below.refl _ _) | (with_reducible assumption) | (with_reducible refine Below.alloc ?_ ?_ _) | (with_reducible refine Below.drew ?_) | (with_reducible refine Below.setCell ?_ ?_ _) | (with_reducible refine bstep (by assumption) ?_ ?_) | (with_reducible exact Nat.le_refl _) | omega | (simp [*]; done) | (simp [*]; omega)))
  have z3 : v2.heap.size + 1 ≤ v3.heap.size := by rw [hv3]; simp [size_set]
  have HP_3 : Hid (Sl v3 2 A n (PR pl)) := by rw [hv3]; exact (HP_2.out).alloc _
  have HQ_3 : Hid (Sl v3 5 B m (JB ql)) := by rw [hv3]; exact (HQ_2.out).alloc _
  have Ha_3 : Hid (Blk v3 w.heap.size 37 #[.int .i64 i0, .int .i64 t0, .slice A n c, .slice B m d, .int .i64 l0, .int .i64 l1, .int .i64 l2]) := by rw [hv3]; exact (Ha_2.out).alloc _
  have Hb_3 : Hid (Blk v3 g1 43 #[.int .i64 ex, .int .i64 et, .int .i64 ec, .int .i64 es, .int .i64 ek, .int .i64 ea, .int .i64 eb, .int .i64 eg, .int .i64 eh]) := by rw [hv3]; exact (Hb_2.out).alloc _
  have Hr_3 : Hid (Blk v3 g2 37 #[.int .i64 0, .int .i64 0, .slice none 0 0, .slice none 0 0, .int .i64 0, .int .i64 0, .int .i64 0]) := by rw [hv3]; exact (Hr_2.out).alloc _
  have Hx_3 : Hid (Row v3 v1.heap.size 106 2 A5 n c5 (PR pl)) := by rw [hv3]; exact (Hx_2.out).alloc _
  have Hy_3 : Hid (Row v3 v1.heap.size 71 5 B5 m d5 (JB ql)) := by rw [hv3]; exact (Hy_2.out).alloc _
  have Hz_3 : Hid (Blk v3 v2.heap.size 37 #[.int .i64 i0, .int .i64 t0, .slice A5 n c5, .slice B5 m d5, .int .i64 l0, .int .i64 l1, .int .i64 l2]) := by rw [hv3]; exact (Blk.new_at _ _ _ _ (by simp [size_set]))
  clear lt_a r_a0 r_a1 r_a2 r_a3 r_a4 r_a5 r_a6 lt_b r_b0 r_b1 r_b2 r_b3 r_b4 r_b5 r_b6 r_b7 r_b8 lt_r r_r0 r_r1 r_r2 r_r3 r_r4 r_r5 r_r6 z_r0 z_r1 z_r2 z_r3 z_r4 z_r5 z_r6
  clear hv3 HP_2 HQ_2 Ha_2 Hb_2 Hr_2 Hx_2 Hy_2
  have lt_a := Ha_3.out.lt
  have r_a0 : v3.cell? ⟨w.heap.size, 0, none⟩ = some (.int .i64 i0) := Ha_3.out.cell 0
  have r_a1 : v3.cell? ⟨w.heap.size, 1, none⟩ = some (.int .i64 t0) := Ha_3.out.cell 1
  have r_a2 : v3.cell? ⟨w.heap.size, 2, none⟩ = some (.slice A n c) := Ha_3.out.cell 2
  have r_a3 : v3.cell? ⟨w.heap.size, 3, none⟩ = some (.slice B m d) := Ha_3.out.cell 3
  have r_a4 : v3.cell? ⟨w.heap.size, 4, none⟩ = some (.int .i64 l0) := Ha_3.out.cell 4
  have r_a5 : v3.cell? ⟨w.heap.size, 5, none⟩ = some (.int .i64 l1) := Ha_3.out.cell 5
  have r_a6 : v3.cell? ⟨w.heap.size, 6, none⟩ = some (.int .i64 l2) := Ha_3.out.cell 6
  have lt_b := Hb_3.out.lt
  have r_b0 : v3.cell? ⟨g1, 0, none⟩ = some (.int .i64 ex) := Hb_3.out.cell 0
  have r_b1 : v3.cell? ⟨g1, 1, none⟩ = some (.int .i64 et) := Hb_3.out.cell 1
  have r_b2 : v3.cell? ⟨g1, 2, none⟩ = some (.int .i64 ec) := Hb_3.out.cell 2
  have r_b3 : v3.cell? ⟨g1, 3, none⟩ = some (.int .i64 es) := Hb_3.out.cell 3
  have r_b4 : v3.cell? ⟨g1, 4, none⟩ = some (.int .i64 ek) := Hb_3.out.cell 4
  have r_b5 : v3.cell? ⟨g1, 5, none⟩ = some (.int .i64 ea) := Hb_3.out.cell 5
  have r_b6 : v3.cell? ⟨g1, 6, none⟩ = some (.int .i64 eb) := Hb_3.out.cell 6
  have r_b7 : v3.cell? ⟨g1, 7, none⟩ = some (.int .i64 eg) := Hb_3.out.cell 7
  have r_b8 : v3.cell? ⟨g1, 8, none⟩ = some (.int .i64 eh) := Hb_3.out.cell 8
  have lt_r := Hr_3.out.lt
  have r_r0 : v3.cell? ⟨g2, 0, none⟩ = some (.int .i64 0) := Hr_3.out.cell 0
  have r_r1 : v3.cell? ⟨g2, 1, none⟩ = some (.int .i64 0) := Hr_3.out.cell 1
  have r_r2 : v3.cell? ⟨g2, 2, none⟩ = some (.slice none 0 0) := Hr_3.out.cell 2
  have r_r3 : v3.cell? ⟨g2, 3, none⟩ = some (.slice none 0 0) := Hr_3.out.cell 3
  have r_r4 : v3.cell? ⟨g2, 4, none⟩ = some (.int .i64 0) := Hr_3.out.cell 4
  have r_r5 : v3.cell? ⟨g2, 5, none⟩ = some (.int .i64 0) := Hr_3.out.cell 5
  have r_r6 : v3.cell? ⟨g2, 6, none⟩ = some (.int .i64 0) := Hr_3.out.cell 6
  have z_r0 := Hr_3.out.frozen 0
  have z_r1 := Hr_3.out.frozen 1
  have z_r2 := Hr_3.out.frozen 2
  have z_r3 := Hr_3.out.frozen 3
  have z_r4 := Hr_3.out.frozen 4
  have z_r5 := Hr_3.out.frozen 5
  have z_r6 := Hr_3.out.frozen 6
  have lt_z := Hz_3.out.lt
  have r_z0 : v3.cell? ⟨v2.heap.size, 0, none⟩ = some (.int .i64 i0) := Hz_3.out.cell 0
  have r_z1 : v3.cell? ⟨v2.heap.size, 1, none⟩ = some (.int .i64 t0) := Hz_3.out.cell 1
  have r_z2 : v3.cell? ⟨v2.heap.size, 2, none⟩ = some (.slice A5 n c5) := Hz_3.out.cell 2
  have r_z3 : v3.cell? ⟨v2.heap.size, 3, none⟩ = some (.slice B5 m d5) := Hz_3.out.cell 3
  have r_z4 : v3.cell? ⟨v2.heap.size, 4, none⟩ = some (.int .i64 l0) := Hz_3.out.cell 4
  have r_z5 : v3.cell? ⟨v2.heap.size, 5, none⟩ = some (.int .i64 l1) := Hz_3.out.cell 5
  have r_z6 : v3.cell? ⟨v2.heap.size, 6, none⟩ = some (.int .i64 l2) := Hz_3.out.cell 6
  have z_z0 := Hz_3.out.frozen 0
  have z_z1 := Hz_3.out.frozen 1
  have z_z2 := Hz_3.out.frozen 2
  have z_z3 := Hz_3.out.frozen 3
  have z_z4 := Hz_3.out.frozen 4
  have z_z5 := Hz_3.out.frozen 5
  have z_z6 := Hz_3.out.frozen 6
  have cc := specEffectOf_any A n c B m d i0 t0 l0 l1 l2 pl ql ex et ec es ek ea eb eg eh v3 HP_3.out HQ_3.out hL.out hR.out hn hm HA.out HB.out _ hx.out
  refine (cc).mono ?_
  rintro e v4 ⟨rfl, b4⟩
  have f4 := bthen f3 b4
  have z4 := b4.size
  have HP_4 := Lib.hid (HP_3.out.below b4)
  have HQ_4 := Lib.hid (HQ_3.out.below b4)
  have Ha_4 := Lib.hid (Ha_3.out.below b4)
  have Hb_4 := Lib.hid (Hb_3.out.below b4)
  have Hr_4 := Lib.hid (Hr_3.out.below b4)
  have Hx_4 := Lib.hid (Hx_3.out.below b4)
  have Hy_4 := Lib.hid (Hy_3.out.below b4)
  have Hz_4 := Lib.hid (Hz_3.out.below b4)
  clear lt_a r_a0 r_a1 r_a2 r_a3 r_a4 r_a5 r_a6 lt_b r_b0 r_b1 r_b2 r_b3 r_b4 r_b5 r_b6 r_b7 r_b8 lt_r r_r0 r_r1 r_r2 r_r3 r_r4 r_r5 r_r6 z_r0 z_r1 z_r2 z_r3 z_r4 z_r5 z_r6 lt_z r_z0 r_z1 r_z2 r_z3 r_z4 r_z5 r_z6 z_z0 z_z1 z_z2 z_z3 z_z4 z_z5 z_z6
  clear HP_3 HQ_3 Ha_3 Hb_3 Hr_3 Hx_3 Hy_3 Hz_3
  clear cc
  have lt_a := Ha_4.out.lt
  have r_a0 : v4.cell? ⟨w.heap.size, 0, none⟩ = some (.int .i64 i0) := Ha_4.out.cell 0
  have r_a1 : v4.cell? ⟨w.heap.size, 1, none⟩ = some (.int .i64 t0) := Ha_4.out.cell 1
  have r_a2 : v4.cell? ⟨w.heap.size, 2, none⟩ = some (.slice A n c) := Ha_4.out.cell 2
  have r_a3 : v4.cell? ⟨w.heap.size, 3, none⟩ = some (.slice B m d) := Ha_4.out.cell 3
  have r_a4 : v4.cell? ⟨w.heap.size, 4, none⟩ = some (.int .i64 l0) := Ha_4.out.cell 4
  have r_a5 : v4.cell? ⟨w.heap.size, 5, none⟩ = some (.int .i64 l1) := Ha_4.out.cell 5
  have r_a6 : v4.cell? ⟨w.heap.size, 6, none⟩ = some (.int .i64 l2) := Ha_4.out.cell 6
  have lt_b := Hb_4.out.lt
  have r_b0 : v4.cell? ⟨g1, 0, none⟩ = some (.int .i64 ex) := Hb_4.out.cell 0
  have r_b1 : v4.cell? ⟨g1, 1, none⟩ = some (.int .i64 et) := Hb_4.out.cell 1
  have r_b2 : v4.cell? ⟨g1, 2, none⟩ = some (.int .i64 ec) := Hb_4.out.cell 2
  have r_b3 : v4.cell? ⟨g1, 3, none⟩ = some (.int .i64 es) := Hb_4.out.cell 3
  have r_b4 : v4.cell? ⟨g1, 4, none⟩ = some (.int .i64 ek) := Hb_4.out.cell 4
  have r_b5 : v4.cell? ⟨g1, 5, none⟩ = some (.int .i64 ea) := Hb_4.out.cell 5
  have r_b6 : v4.cell? ⟨g1, 6, none⟩ = some (.int .i64 eb) := Hb_4.out.cell 6
  have r_b7 : v4.cell? ⟨g1, 7, none⟩ = some (.int .i64 eg) := Hb_4.out.cell 7
  have r_b8 : v4.cell? ⟨g1, 8, none⟩ = some (.int .i64 eh) := Hb_4.out.cell 8
  have lt_r := Hr_4.out.lt
  have r_r0 : v4.cell? ⟨g2, 0, none⟩ = some (.int .i64 0) := Hr_4.out.cell 0
  have r_r1 : v4.cell? ⟨g2, 1, none⟩ = some (.int .i64 0) := Hr_4.out.cell 1
  have r_r2 : v4.cell? ⟨g2, 2, none⟩ = some (.slice none 0 0) := Hr_4.out.cell 2
  have r_r3 : v4.cell? ⟨g2, 3, none⟩ = some (.slice none 0 0) := Hr_4.out.cell 3
  have r_r4 : v4.cell? ⟨g2, 4, none⟩ = some (.int .i64 0) := Hr_4.out.cell 4
  have r_r5 : v4.cell? ⟨g2, 5, none⟩ = some (.int .i64 0) := Hr_4.out.cell 5
  have r_r6 : v4.cell? ⟨g2, 6, none⟩ = some (.int .i64 0) := Hr_4.out.cell 6
  have z_r0 := Hr_4.out.frozen 0
  have z_r1 := Hr_4.out.frozen 1
  have z_r2 := Hr_4.out.frozen 2
  have z_r3 := Hr_4.out.frozen 3
  have z_r4 := Hr_4.out.frozen 4
  have z_r5 := Hr_4.out.frozen 5
  have z_r6 := Hr_4.out.frozen 6
  have lt_z := Hz_4.out.lt
  have r_z0 : v4.cell? ⟨v2.heap.size, 0, none⟩ = some (.int .i64 i0) := Hz_4.out.cell 0
  have r_z1 : v4.cell? ⟨v2.heap.size, 1, none⟩ = some (.int .i64 t0) := Hz_4.out.cell 1
  have r_z2 : v4.cell? ⟨v2.heap.size, 2, none⟩ = some (.slice A5 n c5) := Hz_4.out.cell 2
  have r_z3 : v4.cell? ⟨v2.heap.size, 3, none⟩ = some (.slice B5 m d5) := Hz_4.out.cell 3
  have r_z4 : v4.cell? ⟨v2.heap.size, 4, none⟩ = some (.int .i64 l0) := Hz_4.out.cell 4
  have r_z5 : v4.cell? ⟨v2.heap.size, 5, none⟩ = some (.int .i64 l1) := Hz_4.out.cell 5
  have r_z6 : v4.cell? ⟨v2.heap.size, 6, none⟩ = some (.int .i64 l2) := Hz_4.out.cell 6
  have z_z0 := Hz_4.out.frozen 0
  have z_z1 := Hz_4.out.frozen 1
  have z_z2 := Hz_4.out.frozen 2
  have z_z3 := Hz_4.out.frozen 3
  have z_z4 := Hz_4.out.frozen 4
  have z_z5 := Hz_4.out.frozen 5
  have z_z6 := Hz_4.out.frozen 6
  go_wp21
  refine bodyPost_ret (v := .tuple #[.agg #[.int .i64 i0, .int .i64 t0, .slice A5 n c5, .slice B5 m d5, .int .i64 l0, .int .i64 l1, .int .i64 l2], .bool false]) (by simp [results, Tryz.results7, go_sem, *]) rfl ?_
  have nx : ∀ a, A5 = some a → a.block ≠ g2 := fun a ha => by have := Hx_4.out.ge a ha; omega
  have nzx : ∀ a, A5 = some a → a.block ≠ v2.heap.size := fun a ha => by have := Lx.out a ha; omega
  have ny : ∀ a, B5 = some a → a.block ≠ g2 := fun a ha => by have := Hy_4.out.ge a ha; omega
  have nzy : ∀ a, B5 = some a → a.block ≠ v2.heap.size := fun a ha => by have := Ly.out a ha; omega
  exact RetStateV.mk hL.out hR.out (row_far7 ((Hx_4.out).mono (by omega)) nx _ _ _ _ _ _ _) (row_far7 ((Hy_4.out).mono (by omega)) ny _ _ _ _ _ _ _) HAP.out (by (repeat' (first | (with_reducible exact Below.refl _ _) | (with_reducible assumption) | (with_reducible refine Below.alloc ?_ ?_ _) | (with_reducible refine Below.drew ?_) | (with_reducible refine Below.setCell ?_ ?_ _) | (with_reducible refine bstep (by assumption) ?_ ?_) | (with_reducible exact Nat.le_refl _) | omega | (simp [*]; done) | (simp [*]; omega))))
set_option maxRecDepth 100000 in
set_option maxHeartbeats 4000000 in
theorem specApp_0 (A : Option Addr) (n c : Nat) (B : Option Addr) (m d : Nat) (i0 t0 l0 l1 l2 : Int) (pl : List Pr) (ql : List Jb) (ex et ec es ek ea eb eg eh : Int) (w : World) (hP : Sl w 2 A n (PR pl)) (hQ : Sl w 5 B m (JB ql)) (hl : pl.length = n) (hr : ql.length = m) (hn : n ≤ maxLen) (hm : m ≤ maxLen) (hA : A = none → n = 0 ∧ c = 0) (hB : B = none → m = 0 ∧ d = 0) (hS : Hid (stateB i0 t0 l0 l1 l2 pl ql = true)) (hn10 : n ≤ 10) (hm8 : m ≤ 8) (hx : Hid (effI i0 t0 l0 l1 l2 pl ql ex et ec es ek ea eb eg eh = 0)) :
    Calls Tryz.prog 7 #[.agg #[.int .i64 i0, .int .i64 t0, .slice A n c, .slice B m d, .int .i64 l0, .int .i64 l1, .int .i64 l2], .agg #[.int .i64 ex, .int .i64 et, .int .i64 ec, .int .i64 es, .int .i64 ek, .int .i64 ea, .int .i64 eb, .int .i64 eg, .int .i64 eh]] w (RetStateV w ex et l0 l1 l2 pl.length (PR pl) ql.length (JB ql) (.bool true)) := by
  have HP := Lib.hid hP
  have HQ := Lib.hid hQ
  have HA := Lib.hid hA
  have HB := Lib.hid hB
  have hL := Lib.hid hl
  have hR := Lib.hid hr
  clear hP hQ hA hB hl hr
  go_enter Tryz.func7, Tryz.ntmps7
  go_wp2_with fail
  refine calls_named ?_
  rintro v0 hv0
  have f0 : Below w.heap.size w v0 := by rw [hv0]; (repeat' (first | (with_reducible exact Below.refl _ _) | (with_reducible assumption) | (with_reducible refine Below.alloc ?_ ?_ _) | (with_reducible refine Below.drew ?_) | (with_reducible refine Below.setCell ?_ ?_ _) | (with_reducible refine bstep (by assumption) ?_ ?_) | (with_reducible exact Nat.le_refl _) | omega | (simp [*]; done) | (simp [*]; omega)))
  have z0 : w.heap.size + 3 ≤ v0.heap.size := by rw [hv0]; simp [size_set]
  have HP_0 := Lib.hid (HP.out.below f0)
  have HP_lt := Lib.hid (fun hn => HP.out.lt hn)
  have HQ_0 := Lib.hid (HQ.out.below f0)
  have HQ_lt := Lib.hid (fun hn => HQ.out.lt hn)
  have Ha_0 : Hid (Blk v0 w.heap.size 37 #[.int .i64 i0, .int .i64 t0, .slice A n c, .slice B m d, .int .i64 l0, .int .i64 l1, .int .i64 l2]) := by rw [hv0]; exact ((Blk.new_at _ _ _ _ (by simp)).alloc _).alloc _
  have Hb_0 : Hid (Blk v0 (w.heap.size + 1) 43 #[.int .i64 ex, .int .i64 et, .int .i64 ec, .int .i64 es, .int .i64 ek, .int .i64 ea, .int .i64 eb, .int .i64 eg, .int .i64 eh]) := by rw [hv0]; exact (Blk.new_at _ _ _ _ (by simp)).alloc _
  have Hr_0 : Hid (Blk v0 (w.heap.size + 1 + 1) 37 #[.int .i64 0, .int .i64 0, .slice none 0 0, .slice none 0 0, .int .i64 0, .int .i64 0, .int .i64 0]) := by rw [hv0]; exact Blk.new_at _ _ _ _ (by simp)
  clear hv0
  generalize hg2 : w.heap.size + 1 + 1 = g2 at *
  generalize hg1 : w.heap.size + 1 = g1 at *
  have lg1 : w.heap.size < g1 := by omega
  have lg2 : g1 < g2 := by omega
  have lgz : g2 < v0.heap.size := by omega
  have nq1x0 : ¬ g1 = w.heap.size := by omega
  have nq0x1 : ¬ w.heap.size = g1 := by omega
  have nq2x0 : ¬ g2 = w.heap.size := by omega
  have nq0x2 : ¬ w.heap.size = g2 := by omega
  have nq2x1 : ¬ g2 = g1 := by omega
  have nq1x2 : ¬ g1 = g2 := by omega
  clear hg1 hg2
  have lt_a := Ha_0.out.lt
  have r_a0 : v0.cell? ⟨w.heap.size, 0, none⟩ = some (.int .i64 i0) := Ha_0.out.cell 0
  have r_a1 : v0.cell? ⟨w.heap.size, 1, none⟩ = some (.int .i64 t0) := Ha_0.out.cell 1
  have r_a2 : v0.cell? ⟨w.heap.size, 2, none⟩ = some (.slice A n c) := Ha_0.out.cell 2
  have r_a3 : v0.cell? ⟨w.heap.size, 3, none⟩ = some (.slice B m d) := Ha_0.out.cell 3
  have r_a4 : v0.cell? ⟨w.heap.size, 4, none⟩ = some (.int .i64 l0) := Ha_0.out.cell 4
  have r_a5 : v0.cell? ⟨w.heap.size, 5, none⟩ = some (.int .i64 l1) := Ha_0.out.cell 5
  have r_a6 : v0.cell? ⟨w.heap.size, 6, none⟩ = some (.int .i64 l2) := Ha_0.out.cell 6
  have lt_b := Hb_0.out.lt
  have r_b0 : v0.cell? ⟨g1, 0, none⟩ = some (.int .i64 ex) := Hb_0.out.cell 0
  have r_b1 : v0.cell? ⟨g1, 1, none⟩ = some (.int .i64 et) := Hb_0.out.cell 1
  have r_b2 : v0.cell? ⟨g1, 2, none⟩ = some (.int .i64 ec) := Hb_0.out.cell 2
  have r_b3 : v0.cell? ⟨g1, 3, none⟩ = some (.int .i64 es) := Hb_0.out.cell 3
  have r_b4 : v0.cell? ⟨g1, 4, none⟩ = some (.int .i64 ek) := Hb_0.out.cell 4
  have r_b5 : v0.cell? ⟨g1, 5, none⟩ = some (.int .i64 ea) := Hb_0.out.cell 5
  have r_b6 : v0.cell? ⟨g1, 6, none⟩ = some (.int .i64 eb) := Hb_0.out.cell 6
  have r_b7 : v0.cell? ⟨g1, 7, none⟩ = some (.int .i64 eg) := Hb_0.out.cell 7
  have r_b8 : v0.cell? ⟨g1, 8, none⟩ = some (.int .i64 eh) := Hb_0.out.cell 8
  have lt_r := Hr_0.out.lt
  have r_r0 : v0.cell? ⟨g2, 0, none⟩ = some (.int .i64 0) := Hr_0.out.cell 0
  have r_r1 : v0.cell? ⟨g2, 1, none⟩ = some (.int .i64 0) := Hr_0.out.cell 1
  have r_r2 : v0.cell? ⟨g2, 2, none⟩ = some (.slice none 0 0) := Hr_0.out.cell 2
  have r_r3 : v0.cell? ⟨g2, 3, none⟩ = some (.slice none 0 0) := Hr_0.out.cell 3
  have r_r4 : v0.cell? ⟨g2, 4, none⟩ = some (.int .i64 0) := Hr_0.out.cell 4
  have r_r5 : v0.cell? ⟨g2, 5, none⟩ = some (.int .i64 0) := Hr_0.out.cell 5
  have r_r6 : v0.cell? ⟨g2, 6, none⟩ = some (.int .i64 0) := Hr_0.out.cell 6
  have z_r0 := Hr_0.out.frozen 0
  have z_r1 := Hr_0.out.frozen 1
  have z_r2 := Hr_0.out.frozen 2
  have z_r3 := Hr_0.out.frozen 3
  have z_r4 := Hr_0.out.frozen 4
  have z_r5 := Hr_0.out.frozen 5
  have z_r6 := Hr_0.out.frozen 6
  have cc := specStateOk_any A n c B m d i0 t0 l0 l1 l2 pl ql v0 HP_0.out HQ_0.out hL.out hR.out hn hm
  rw [hS.out] at cc
  refine (cc).mono ?_
  rintro e v1 ⟨rfl, b1⟩
  have f1 := bthen f0 b1
  have z1 := b1.size
  have HP_1 := Lib.hid (HP_0.out.below b1)
  have HQ_1 := Lib.hid (HQ_0.out.below b1)
  have Ha_1 := Lib.hid (Ha_0.out.below b1)
  have Hb_1 := Lib.hid (Hb_0.out.below b1)
  have Hr_1 := Lib.hid (Hr_0.out.below b1)
  clear lt_a r_a0 r_a1 r_a2 r_a3 r_a4 r_a5 r_a6 lt_b r_b0 r_b1 r_b2 r_b3 r_b4 r_b5 r_b6 r_b7 r_b8 lt_r r_r0 r_r1 r_r2 r_r3 r_r4 r_r5 r_r6 z_r0 z_r1 z_r2 z_r3 z_r4 z_r5 z_r6
  clear HP_0 HQ_0 Ha_0 Hb_0 Hr_0
  clear cc
  have lt_a := Ha_1.out.lt
  have r_a0 : v1.cell? ⟨w.heap.size, 0, none⟩ = some (.int .i64 i0) := Ha_1.out.cell 0
  have r_a1 : v1.cell? ⟨w.heap.size, 1, none⟩ = some (.int .i64 t0) := Ha_1.out.cell 1
  have r_a2 : v1.cell? ⟨w.heap.size, 2, none⟩ = some (.slice A n c) := Ha_1.out.cell 2
  have r_a3 : v1.cell? ⟨w.heap.size, 3, none⟩ = some (.slice B m d) := Ha_1.out.cell 3
  have r_a4 : v1.cell? ⟨w.heap.size, 4, none⟩ = some (.int .i64 l0) := Ha_1.out.cell 4
  have r_a5 : v1.cell? ⟨w.heap.size, 5, none⟩ = some (.int .i64 l1) := Ha_1.out.cell 5
  have r_a6 : v1.cell? ⟨w.heap.size, 6, none⟩ = some (.int .i64 l2) := Ha_1.out.cell 6
  have lt_b := Hb_1.out.lt
  have r_b0 : v1.cell? ⟨g1, 0, none⟩ = some (.int .i64 ex) := Hb_1.out.cell 0
  have r_b1 : v1.cell? ⟨g1, 1, none⟩ = some (.int .i64 et) := Hb_1.out.cell 1
  have r_b2 : v1.cell? ⟨g1, 2, none⟩ = some (.int .i64 ec) := Hb_1.out.cell 2
  have r_b3 : v1.cell? ⟨g1, 3, none⟩ = some (.int .i64 es) := Hb_1.out.cell 3
  have r_b4 : v1.cell? ⟨g1, 4, none⟩ = some (.int .i64 ek) := Hb_1.out.cell 4
  have r_b5 : v1.cell? ⟨g1, 5, none⟩ = some (.int .i64 ea) := Hb_1.out.cell 5
  have r_b6 : v1.cell? ⟨g1, 6, none⟩ = some (.int .i64 eb) := Hb_1.out.cell 6
  have r_b7 : v1.cell? ⟨g1, 7, none⟩ = some (.int .i64 eg) := Hb_1.out.cell 7
  have r_b8 : v1.cell? ⟨g1, 8, none⟩ = some (.int .i64 eh) := Hb_1.out.cell 8
  have lt_r := Hr_1.out.lt
  have r_r0 : v1.cell? ⟨g2, 0, none⟩ = some (.int .i64 0) := Hr_1.out.cell 0
  have r_r1 : v1.cell? ⟨g2, 1, none⟩ = some (.int .i64 0) := Hr_1.out.cell 1
  have r_r2 : v1.cell? ⟨g2, 2, none⟩ = some (.slice none 0 0) := Hr_1.out.cell 2
  have r_r3 : v1.cell? ⟨g2, 3, none⟩ = some (.slice none 0 0) := Hr_1.out.cell 3
  have r_r4 : v1.cell? ⟨g2, 4, none⟩ = some (.int .i64 0) := Hr_1.out.cell 4
  have r_r5 : v1.cell? ⟨g2, 5, none⟩ = some (.int .i64 0) := Hr_1.out.cell 5
  have r_r6 : v1.cell? ⟨g2, 6, none⟩ = some (.int .i64 0) := Hr_1.out.cell 6
  have z_r0 := Hr_1.out.frozen 0
  have z_r1 := Hr_1.out.frozen 1
  have z_r2 := Hr_1.out.frozen 2
  have z_r3 := Hr_1.out.frozen 3
  have z_r4 := Hr_1.out.frozen 4
  have z_r5 := Hr_1.out.frozen 5
  have z_r6 := Hr_1.out.frozen 6
  go_wp2_with fail
  refine (l17Copy_any A n c B m d i0 t0 l0 l1 l2 pl ql _ HP_1.out HQ_1.out hL.out hR.out (by omega) (by omega) HA.out HB.out).mono ?_
  rintro e v2 ⟨A5, c5, B5, d5, rfl, R5, R6, hap, b2⟩
  have HAP := Lib.hid hap
  have Lx := Lib.hid R5.lt
  have Ly := Lib.hid R6.lt
  clear hap
  have f2 := bthen f1 b2
  have z2 := b2.size
  have HP_2 := Lib.hid (HP_1.out.below b2)
  have HQ_2 := Lib.hid (HQ_1.out.below b2)
  have Ha_2 := Lib.hid (Ha_1.out.below b2)
  have Hb_2 := Lib.hid (Hb_1.out.below b2)
  have Hr_2 := Lib.hid (Hr_1.out.below b2)
  clear lt_a r_a0 r_a1 r_a2 r_a3 r_a4 r_a5 r_a6 lt_b r_b0 r_b1 r_b2 r_b3 r_b4 r_b5 r_b6 r_b7 r_b8 lt_r r_r0 r_r1 r_r2 r_r3 r_r4 r_r5 r_r6 z_r0 z_r1 z_r2 z_r3 z_r4 z_r5 z_r6
  clear HP_1 HQ_1 Ha_1 Hb_1 Hr_1
  have Hx_2 := Lib.hid R5
  clear R5
  have Hy_2 := Lib.hid R6
  clear R6
  have lt_a := Ha_2.out.lt
  have r_a0 : v2.cell? ⟨w.heap.size, 0, none⟩ = some (.int .i64 i0) := Ha_2.out.cell 0
  have r_a1 : v2.cell? ⟨w.heap.size, 1, none⟩ = some (.int .i64 t0) := Ha_2.out.cell 1
  have r_a2 : v2.cell? ⟨w.heap.size, 2, none⟩ = some (.slice A n c) := Ha_2.out.cell 2
  have r_a3 : v2.cell? ⟨w.heap.size, 3, none⟩ = some (.slice B m d) := Ha_2.out.cell 3
  have r_a4 : v2.cell? ⟨w.heap.size, 4, none⟩ = some (.int .i64 l0) := Ha_2.out.cell 4
  have r_a5 : v2.cell? ⟨w.heap.size, 5, none⟩ = some (.int .i64 l1) := Ha_2.out.cell 5
  have r_a6 : v2.cell? ⟨w.heap.size, 6, none⟩ = some (.int .i64 l2) := Ha_2.out.cell 6
  have lt_b := Hb_2.out.lt
  have r_b0 : v2.cell? ⟨g1, 0, none⟩ = some (.int .i64 ex) := Hb_2.out.cell 0
  have r_b1 : v2.cell? ⟨g1, 1, none⟩ = some (.int .i64 et) := Hb_2.out.cell 1
  have r_b2 : v2.cell? ⟨g1, 2, none⟩ = some (.int .i64 ec) := Hb_2.out.cell 2
  have r_b3 : v2.cell? ⟨g1, 3, none⟩ = some (.int .i64 es) := Hb_2.out.cell 3
  have r_b4 : v2.cell? ⟨g1, 4, none⟩ = some (.int .i64 ek) := Hb_2.out.cell 4
  have r_b5 : v2.cell? ⟨g1, 5, none⟩ = some (.int .i64 ea) := Hb_2.out.cell 5
  have r_b6 : v2.cell? ⟨g1, 6, none⟩ = some (.int .i64 eb) := Hb_2.out.cell 6
  have r_b7 : v2.cell? ⟨g1, 7, none⟩ = some (.int .i64 eg) := Hb_2.out.cell 7
  have r_b8 : v2.cell? ⟨g1, 8, none⟩ = some (.int .i64 eh) := Hb_2.out.cell 8
  have lt_r := Hr_2.out.lt
  have r_r0 : v2.cell? ⟨g2, 0, none⟩ = some (.int .i64 0) := Hr_2.out.cell 0
  have r_r1 : v2.cell? ⟨g2, 1, none⟩ = some (.int .i64 0) := Hr_2.out.cell 1
  have r_r2 : v2.cell? ⟨g2, 2, none⟩ = some (.slice none 0 0) := Hr_2.out.cell 2
  have r_r3 : v2.cell? ⟨g2, 3, none⟩ = some (.slice none 0 0) := Hr_2.out.cell 3
  have r_r4 : v2.cell? ⟨g2, 4, none⟩ = some (.int .i64 0) := Hr_2.out.cell 4
  have r_r5 : v2.cell? ⟨g2, 5, none⟩ = some (.int .i64 0) := Hr_2.out.cell 5
  have r_r6 : v2.cell? ⟨g2, 6, none⟩ = some (.int .i64 0) := Hr_2.out.cell 6
  have z_r0 := Hr_2.out.frozen 0
  have z_r1 := Hr_2.out.frozen 1
  have z_r2 := Hr_2.out.frozen 2
  have z_r3 := Hr_2.out.frozen 3
  have z_r4 := Hr_2.out.frozen 4
  have z_r5 := Hr_2.out.frozen 5
  have z_r6 := Hr_2.out.frozen 6
  go_wp2_with fail
  refine calls_named ?_
  rintro v3 hv3
  have f3 : Below w.heap.size w v3 := by rw [hv3]; (repeat' (first | (with_reducible exact Below.refl _ _) | (with_reducible assumption) | (with_reducible refine Below.alloc ?_ ?_ _) | (with_reducible refine Below.drew ?_) | (with_reducible refine Below.setCell ?_ ?_ _) | (with_reducible refine bstep (by assumption) ?_ ?_) | (with_reducible exact Nat.le_refl _) | omega | (simp [*]; done) | (simp [*]; omega)))
  have z3 : v2.heap.size + 1 ≤ v3.heap.size := by rw [hv3]; simp [size_set]
  have HP_3 : Hid (Sl v3 2 A n (PR pl)) := by rw [hv3]; exact (HP_2.out).alloc _
  have HQ_3 : Hid (Sl v3 5 B m (JB ql)) := by rw [hv3]; exact (HQ_2.out).alloc _
  have Ha_3 : Hid (Blk v3 w.heap.size 37 #[.int .i64 i0, .int .i64 t0, .slice A n c, .slice B m d, .int .i64 l0, .int .i64 l1, .int .i64 l2]) := by rw [hv3]; exact (Ha_2.out).alloc _
  have Hb_3 : Hid (Blk v3 g1 43 #[.int .i64 ex, .int .i64 et, .int .i64 ec, .int .i64 es, .int .i64 ek, .int .i64 ea, .int .i64 eb, .int .i64 eg, .int .i64 eh]) := by rw [hv3]; exact (Hb_2.out).alloc _
  have Hr_3 : Hid (Blk v3 g2 37 #[.int .i64 0, .int .i64 0, .slice none 0 0, .slice none 0 0, .int .i64 0, .int .i64 0, .int .i64 0]) := by rw [hv3]; exact (Hr_2.out).alloc _
  have Hx_3 : Hid (Row v3 v1.heap.size 106 2 A5 n c5 (PR pl)) := by rw [hv3]; exact (Hx_2.out).alloc _
  have Hy_3 : Hid (Row v3 v1.heap.size 71 5 B5 m d5 (JB ql)) := by rw [hv3]; exact (Hy_2.out).alloc _
  have Hz_3 : Hid (Blk v3 v2.heap.size 37 #[.int .i64 i0, .int .i64 t0, .slice A5 n c5, .slice B5 m d5, .int .i64 l0, .int .i64 l1, .int .i64 l2]) := by rw [hv3]; exact (Blk.new_at _ _ _ _ (by simp [size_set]))
  clear lt_a r_a0 r_a1 r_a2 r_a3 r_a4 r_a5 r_a6 lt_b r_b0 r_b1 r_b2 r_b3 r_b4 r_b5 r_b6 r_b7 r_b8 lt_r r_r0 r_r1 r_r2 r_r3 r_r4 r_r5 r_r6 z_r0 z_r1 z_r2 z_r3 z_r4 z_r5 z_r6
  clear hv3 HP_2 HQ_2 Ha_2 Hb_2 Hr_2 Hx_2 Hy_2
  have lt_a := Ha_3.out.lt
  have r_a0 : v3.cell? ⟨w.heap.size, 0, none⟩ = some (.int .i64 i0) := Ha_3.out.cell 0
  have r_a1 : v3.cell? ⟨w.heap.size, 1, none⟩ = some (.int .i64 t0) := Ha_3.out.cell 1
  have r_a2 : v3.cell? ⟨w.heap.size, 2, none⟩ = some (.slice A n c) := Ha_3.out.cell 2
  have r_a3 : v3.cell? ⟨w.heap.size, 3, none⟩ = some (.slice B m d) := Ha_3.out.cell 3
  have r_a4 : v3.cell? ⟨w.heap.size, 4, none⟩ = some (.int .i64 l0) := Ha_3.out.cell 4
  have r_a5 : v3.cell? ⟨w.heap.size, 5, none⟩ = some (.int .i64 l1) := Ha_3.out.cell 5
  have r_a6 : v3.cell? ⟨w.heap.size, 6, none⟩ = some (.int .i64 l2) := Ha_3.out.cell 6
  have lt_b := Hb_3.out.lt
  have r_b0 : v3.cell? ⟨g1, 0, none⟩ = some (.int .i64 ex) := Hb_3.out.cell 0
  have r_b1 : v3.cell? ⟨g1, 1, none⟩ = some (.int .i64 et) := Hb_3.out.cell 1
  have r_b2 : v3.cell? ⟨g1, 2, none⟩ = some (.int .i64 ec) := Hb_3.out.cell 2
  have r_b3 : v3.cell? ⟨g1, 3, none⟩ = some (.int .i64 es) := Hb_3.out.cell 3
  have r_b4 : v3.cell? ⟨g1, 4, none⟩ = some (.int .i64 ek) := Hb_3.out.cell 4
  have r_b5 : v3.cell? ⟨g1, 5, none⟩ = some (.int .i64 ea) := Hb_3.out.cell 5
  have r_b6 : v3.cell? ⟨g1, 6, none⟩ = some (.int .i64 eb) := Hb_3.out.cell 6
  have r_b7 : v3.cell? ⟨g1, 7, none⟩ = some (.int .i64 eg) := Hb_3.out.cell 7
  have r_b8 : v3.cell? ⟨g1, 8, none⟩ = some (.int .i64 eh) := Hb_3.out.cell 8
  have lt_r := Hr_3.out.lt
  have r_r0 : v3.cell? ⟨g2, 0, none⟩ = some (.int .i64 0) := Hr_3.out.cell 0
  have r_r1 : v3.cell? ⟨g2, 1, none⟩ = some (.int .i64 0) := Hr_3.out.cell 1
  have r_r2 : v3.cell? ⟨g2, 2, none⟩ = some (.slice none 0 0) := Hr_3.out.cell 2
  have r_r3 : v3.cell? ⟨g2, 3, none⟩ = some (.slice none 0 0) := Hr_3.out.cell 3
  have r_r4 : v3.cell? ⟨g2, 4, none⟩ = some (.int .i64 0) := Hr_3.out.cell 4
  have r_r5 : v3.cell? ⟨g2, 5, none⟩ = some (.int .i64 0) := Hr_3.out.cell 5
  have r_r6 : v3.cell? ⟨g2, 6, none⟩ = some (.int .i64 0) := Hr_3.out.cell 6
  have z_r0 := Hr_3.out.frozen 0
  have z_r1 := Hr_3.out.frozen 1
  have z_r2 := Hr_3.out.frozen 2
  have z_r3 := Hr_3.out.frozen 3
  have z_r4 := Hr_3.out.frozen 4
  have z_r5 := Hr_3.out.frozen 5
  have z_r6 := Hr_3.out.frozen 6
  have lt_z := Hz_3.out.lt
  have r_z0 : v3.cell? ⟨v2.heap.size, 0, none⟩ = some (.int .i64 i0) := Hz_3.out.cell 0
  have r_z1 : v3.cell? ⟨v2.heap.size, 1, none⟩ = some (.int .i64 t0) := Hz_3.out.cell 1
  have r_z2 : v3.cell? ⟨v2.heap.size, 2, none⟩ = some (.slice A5 n c5) := Hz_3.out.cell 2
  have r_z3 : v3.cell? ⟨v2.heap.size, 3, none⟩ = some (.slice B5 m d5) := Hz_3.out.cell 3
  have r_z4 : v3.cell? ⟨v2.heap.size, 4, none⟩ = some (.int .i64 l0) := Hz_3.out.cell 4
  have r_z5 : v3.cell? ⟨v2.heap.size, 5, none⟩ = some (.int .i64 l1) := Hz_3.out.cell 5
  have r_z6 : v3.cell? ⟨v2.heap.size, 6, none⟩ = some (.int .i64 l2) := Hz_3.out.cell 6
  have z_z0 := Hz_3.out.frozen 0
  have z_z1 := Hz_3.out.frozen 1
  have z_z2 := Hz_3.out.frozen 2
  have z_z3 := Hz_3.out.frozen 3
  have z_z4 := Hz_3.out.frozen 4
  have z_z5 := Hz_3.out.frozen 5
  have z_z6 := Hz_3.out.frozen 6
  have cc := specEffectOf_any A n c B m d i0 t0 l0 l1 l2 pl ql ex et ec es ek ea eb eg eh v3 HP_3.out HQ_3.out hL.out hR.out hn hm HA.out HB.out _ hx.out
  refine (cc).mono ?_
  rintro e v4 ⟨rfl, b4⟩
  have f4 := bthen f3 b4
  have z4 := b4.size
  have HP_4 := Lib.hid (HP_3.out.below b4)
  have HQ_4 := Lib.hid (HQ_3.out.below b4)
  have Ha_4 := Lib.hid (Ha_3.out.below b4)
  have Hb_4 := Lib.hid (Hb_3.out.below b4)
  have Hr_4 := Lib.hid (Hr_3.out.below b4)
  have Hx_4 := Lib.hid (Hx_3.out.below b4)
  have Hy_4 := Lib.hid (Hy_3.out.below b4)
  have Hz_4 := Lib.hid (Hz_3.out.below b4)
  clear lt_a r_a0 r_a1 r_a2 r_a3 r_a4 r_a5 r_a6 lt_b r_b0 r_b1 r_b2 r_b3 r_b4 r_b5 r_b6 r_b7 r_b8 lt_r r_r0 r_r1 r_r2 r_r3 r_r4 r_r5 r_r6 z_r0 z_r1 z_r2 z_r3 z_r4 z_r5 z_r6 lt_z r_z0 r_z1 r_z2 r_z3 r_z4 r_z5 r_z6 z_z0 z_z1 z_z2 z_z3 z_z4 z_z5 z_z6
  clear HP_3 HQ_3 Ha_3 Hb_3 Hr_3 Hx_3 Hy_3 Hz_3
  clear cc
  have lt_a := Ha_4.out.lt
  have r_a0 : v4.cell? ⟨w.heap.size, 0, none⟩ = some (.int .i64 i0) := Ha_4.out.cell 0
  have r_a1 : v4.cell? ⟨w.heap.size, 1, none⟩ = some (.int .i64 t0) := Ha_4.out.cell 1
  have r_a2 : v4.cell? ⟨w.heap.size, 2, none⟩ = some (.slice A n c) := Ha_4.out.cell 2
  have r_a3 : v4.cell? ⟨w.heap.size, 3, none⟩ = some (.slice B m d) := Ha_4.out.cell 3
  have r_a4 : v4.cell? ⟨w.heap.size, 4, none⟩ = some (.int .i64 l0) := Ha_4.out.cell 4
  have r_a5 : v4.cell? ⟨w.heap.size, 5, none⟩ = some (.int .i64 l1) := Ha_4.out.cell 5
  have r_a6 : v4.cell? ⟨w.heap.size, 6, none⟩ = some (.int .i64 l2) := Ha_4.out.cell 6
  have lt_b := Hb_4.out.lt
  have r_b0 : v4.cell? ⟨g1, 0, none⟩ = some (.int .i64 ex) := Hb_4.out.cell 0
  have r_b1 : v4.cell? ⟨g1, 1, none⟩ = some (.int .i64 et) := Hb_4.out.cell 1
  have r_b2 : v4.cell? ⟨g1, 2, none⟩ = some (.int .i64 ec) := Hb_4.out.cell 2
  have r_b3 : v4.cell? ⟨g1, 3, none⟩ = some (.int .i64 es) := Hb_4.out.cell 3
  have r_b4 : v4.cell? ⟨g1, 4, none⟩ = some (.int .i64 ek) := Hb_4.out.cell 4
  have r_b5 : v4.cell? ⟨g1, 5, none⟩ = some (.int .i64 ea) := Hb_4.out.cell 5
  have r_b6 : v4.cell? ⟨g1, 6, none⟩ = some (.int .i64 eb) := Hb_4.out.cell 6
  have r_b7 : v4.cell? ⟨g1, 7, none⟩ = some (.int .i64 eg) := Hb_4.out.cell 7
  have r_b8 : v4.cell? ⟨g1, 8, none⟩ = some (.int .i64 eh) := Hb_4.out.cell 8
  have lt_r := Hr_4.out.lt
  have r_r0 : v4.cell? ⟨g2, 0, none⟩ = some (.int .i64 0) := Hr_4.out.cell 0
  have r_r1 : v4.cell? ⟨g2, 1, none⟩ = some (.int .i64 0) := Hr_4.out.cell 1
  have r_r2 : v4.cell? ⟨g2, 2, none⟩ = some (.slice none 0 0) := Hr_4.out.cell 2
  have r_r3 : v4.cell? ⟨g2, 3, none⟩ = some (.slice none 0 0) := Hr_4.out.cell 3
  have r_r4 : v4.cell? ⟨g2, 4, none⟩ = some (.int .i64 0) := Hr_4.out.cell 4
  have r_r5 : v4.cell? ⟨g2, 5, none⟩ = some (.int .i64 0) := Hr_4.out.cell 5
  have r_r6 : v4.cell? ⟨g2, 6, none⟩ = some (.int .i64 0) := Hr_4.out.cell 6
  have z_r0 := Hr_4.out.frozen 0
  have z_r1 := Hr_4.out.frozen 1
  have z_r2 := Hr_4.out.frozen 2
  have z_r3 := Hr_4.out.frozen 3
  have z_r4 := Hr_4.out.frozen 4
  have z_r5 := Hr_4.out.frozen 5
  have z_r6 := Hr_4.out.frozen 6
  have lt_z := Hz_4.out.lt
  have r_z0 : v4.cell? ⟨v2.heap.size, 0, none⟩ = some (.int .i64 i0) := Hz_4.out.cell 0
  have r_z1 : v4.cell? ⟨v2.heap.size, 1, none⟩ = some (.int .i64 t0) := Hz_4.out.cell 1
  have r_z2 : v4.cell? ⟨v2.heap.size, 2, none⟩ = some (.slice A5 n c5) := Hz_4.out.cell 2
  have r_z3 : v4.cell? ⟨v2.heap.size, 3, none⟩ = some (.slice B5 m d5) := Hz_4.out.cell 3
  have r_z4 : v4.cell? ⟨v2.heap.size, 4, none⟩ = some (.int .i64 l0) := Hz_4.out.cell 4
  have r_z5 : v4.cell? ⟨v2.heap.size, 5, none⟩ = some (.int .i64 l1) := Hz_4.out.cell 5
  have r_z6 : v4.cell? ⟨v2.heap.size, 6, none⟩ = some (.int .i64 l2) := Hz_4.out.cell 6
  have z_z0 := Hz_4.out.frozen 0
  have z_z1 := Hz_4.out.frozen 1
  have z_z2 := Hz_4.out.frozen 2
  have z_z3 := Hz_4.out.frozen 3
  have z_z4 := Hz_4.out.frozen 4
  have z_z5 := Hz_4.out.frozen 5
  have z_z6 := Hz_4.out.frozen 6
  go_wp21
  refine bodyPost_ret (v := .tuple #[.agg #[.int .i64 ex, .int .i64 et, .slice A5 n c5, .slice B5 m d5, .int .i64 l0, .int .i64 l1, .int .i64 l2], .bool true]) (by simp [results, Tryz.results7, go_sem, *]) rfl ?_
  have nx : ∀ a, A5 = some a → a.block ≠ g2 := fun a ha => by have := Hx_4.out.ge a ha; omega
  have nzx : ∀ a, A5 = some a → a.block ≠ v2.heap.size := fun a ha => by have := Lx.out a ha; omega
  have ny : ∀ a, B5 = some a → a.block ≠ g2 := fun a ha => by have := Hy_4.out.ge a ha; omega
  have nzy : ∀ a, B5 = some a → a.block ≠ v2.heap.size := fun a ha => by have := Ly.out a ha; omega
  exact RetStateV.mk hL.out hR.out (row_far7 ((((Hx_4.out).far (p := ⟨v2.heap.size, 0, none⟩) nzx _).far (p := ⟨v2.heap.size, 1, none⟩) nzx _).mono (by omega)) nx _ _ _ _ _ _ _) (row_far7 ((((Hy_4.out).far (p := ⟨v2.heap.size, 0, none⟩) nzy _).far (p := ⟨v2.heap.size, 1, none⟩) nzy _).mono (by omega)) ny _ _ _ _ _ _ _) HAP.out (by (repeat' (first | (with_reducible exact Below.refl _ _) | (with_reducible assumption) | (with_reducible refine Below.alloc ?_ ?_ _) | (with_reducible refine Below.drew ?_) | (with_reducible refine Below.setCell ?_ ?_ _) | (with_reducible refine bstep (by assumption) ?_ ?_) | (with_reducible exact Nat.le_refl _) | omega | (simp [*]; done) | (simp [*]; omega))))
set_option maxRecDepth 100000 in
set_option maxHeartbeats 4000000 in
theorem specApp_1 (A : Option Addr) (n c : Nat) (B : Option Addr) (m d : Nat) (i0 t0 l0 l1 l2 : Int) (pl : List Pr) (ql : List Jb) (ex et ec es ea eb eg eh : Int) (w : World) (hP : Sl w 2 A n (PR pl)) (hQ : Sl w 5 B m (JB ql)) (hl : pl.length = n) (hr : ql.length = m) (hn : n ≤ maxLen) (hm : m ≤ maxLen) (hA : A = none → n = 0 ∧ c = 0) (hB : B = none → m = 0 ∧ d = 0) (hS : Hid (stateB i0 t0 l0 l1 l2 pl ql = true)) (hn10 : n ≤ 10) (hm8 : m ≤ 8) (hx : Hid (effI i0 t0 l0 l1 l2 pl ql ex et ec es 1 ea eb eg eh = 1)) (p2 : List Pr) (ok : Bool) (k2 : Nat) (hv : Hid (putR pl ea eb = (p2, ok))) (hk2 : Hid (p2.length = k2)) :
    Calls Tryz.prog 7 #[.agg #[.int .i64 i0, .int .i64 t0, .slice A n c, .slice B m d, .int .i64 l0, .int .i64 l1, .int .i64 l2], .agg #[.int .i64 ex, .int .i64 et, .int .i64 ec, .int .i64 es, .int .i64 1, .int .i64 ea, .int .i64 eb, .int .i64 eg, .int .i64 eh]] w (RetStateV w ex et l0 l1 l2 p2.length (PR p2) ql.length (JB ql) (.bool true)) := by
  have HP := Lib.hid hP
  have HQ := Lib.hid hQ
  have HA := Lib.hid hA
  have HB := Lib.hid hB
  have hL := Lib.hid hl
  have hR := Lib.hid hr
  clear hP hQ hA hB hl hr
  go_enter Tryz.func7, Tryz.ntmps7
  go_wp2_with fail
  refine calls_named ?_
  rintro v0 hv0
  have f0 : Below w.heap.size w v0 := by rw [hv0]; (repeat' (first | (with_reducible exact Below.refl _ _) | (with_reducible assumption) | (with_reducible refine Below.alloc ?_ ?_ _) | (with_reducible refine Below.drew ?_) | (with_reducible refine Below.setCell ?_ ?_ _) | (with_reducible refine bstep (by assumption) ?_ ?_) | (with_reducible exact Nat.le_refl _) | omega | (simp [*]; done) | (simp [*]; omega)))
  have z0 : w.heap.size + 3 ≤ v0.heap.size := by rw [hv0]; simp [size_set]
  have HP_0 := Lib.hid (HP.out.below f0)
  have HP_lt := Lib.hid (fun hn => HP.out.lt hn)
  have HQ_0 := Lib.hid (HQ.out.below f0)
  have HQ_lt := Lib.hid (fun hn => HQ.out.lt hn)
  have Ha_0 : Hid (Blk v0 w.heap.size 37 #[.int .i64 i0, .int .i64 t0, .slice A n c, .slice B m d, .int .i64 l0, .int .i64 l1, .int .i64 l2]) := by rw [hv0]; exact ((Blk.new_at _ _ _ _ (by simp)).alloc _).alloc _
  have Hb_0 : Hid (Blk v0 (w.heap.size + 1) 43 #[.int .i64 ex, .int .i64 et, .int .i64 ec, .int .i64 es, .int .i64 1, .int .i64 ea, .int .i64 eb, .int .i64 eg, .int .i64 eh]) := by rw [hv0]; exact (Blk.new_at _ _ _ _ (by simp)).alloc _
  have Hr_0 : Hid (Blk v0 (w.heap.size + 1 + 1) 37 #[.int .i64 0, .int .i64 0, .slice none 0 0, .slice none 0 0, .int .i64 0, .int .i64 0, .int .i64 0]) := by rw [hv0]; exact Blk.new_at _ _ _ _ (by simp)
  clear hv0
  generalize hg2 : w.heap.size + 1 + 1 = g2 at *
  generalize hg1 : w.heap.size + 1 = g1 at *
  have lg1 : w.heap.size < g1 := by omega
  have lg2 : g1 < g2 := by omega
  have lgz : g2 < v0.heap.size := by omega
  have nq1x0 : ¬ g1 = w.heap.size := by omega
  have nq0x1 : ¬ w.heap.size = g1 := by omega
  have nq2x0 : ¬ g2 = w.heap.size := by omega
  have nq0x2 : ¬ w.heap.size = g2 := by omega
  have nq2x1 : ¬ g2 = g1 := by omega
  have nq1x2 : ¬ g1 = g2 := by omega
  clear hg1 hg2
  have lt_a := Ha_0.out.lt
  have r_a0 : v0.cell? ⟨w.heap.size, 0, none⟩ = some (.int .i64 i0) := Ha_0.out.cell 0
  have r_a1 : v0.cell? ⟨w.heap.size, 1, none⟩ = some (.int .i64 t0) := Ha_0.out.cell 1
  have r_a2 : v0.cell? ⟨w.heap.size, 2, none⟩ = some (.slice A n c) := Ha_0.out.cell 2
  have r_a3 : v0.cell? ⟨w.heap.size, 3, none⟩ = some (.slice B m d) := Ha_0.out.cell 3
  have r_a4 : v0.cell? ⟨w.heap.size, 4, none⟩ = some (.int .i64 l0) := Ha_0.out.cell 4
  have r_a5 : v0.cell? ⟨w.heap.size, 5, none⟩ = some (.int .i64 l1) := Ha_0.out.cell 5
  have r_a6 : v0.cell? ⟨w.heap.size, 6, none⟩ = some (.int .i64 l2) := Ha_0.out.cell 6
  have lt_b := Hb_0.out.lt
  have r_b0 : v0.cell? ⟨g1, 0, none⟩ = some (.int .i64 ex) := Hb_0.out.cell 0
  have r_b1 : v0.cell? ⟨g1, 1, none⟩ = some (.int .i64 et) := Hb_0.out.cell 1
  have r_b2 : v0.cell? ⟨g1, 2, none⟩ = some (.int .i64 ec) := Hb_0.out.cell 2
  have r_b3 : v0.cell? ⟨g1, 3, none⟩ = some (.int .i64 es) := Hb_0.out.cell 3
  have r_b4 : v0.cell? ⟨g1, 4, none⟩ = some (.int .i64 1) := Hb_0.out.cell 4
  have r_b5 : v0.cell? ⟨g1, 5, none⟩ = some (.int .i64 ea) := Hb_0.out.cell 5
  have r_b6 : v0.cell? ⟨g1, 6, none⟩ = some (.int .i64 eb) := Hb_0.out.cell 6
  have r_b7 : v0.cell? ⟨g1, 7, none⟩ = some (.int .i64 eg) := Hb_0.out.cell 7
  have r_b8 : v0.cell? ⟨g1, 8, none⟩ = some (.int .i64 eh) := Hb_0.out.cell 8
  have lt_r := Hr_0.out.lt
  have r_r0 : v0.cell? ⟨g2, 0, none⟩ = some (.int .i64 0) := Hr_0.out.cell 0
  have r_r1 : v0.cell? ⟨g2, 1, none⟩ = some (.int .i64 0) := Hr_0.out.cell 1
  have r_r2 : v0.cell? ⟨g2, 2, none⟩ = some (.slice none 0 0) := Hr_0.out.cell 2
  have r_r3 : v0.cell? ⟨g2, 3, none⟩ = some (.slice none 0 0) := Hr_0.out.cell 3
  have r_r4 : v0.cell? ⟨g2, 4, none⟩ = some (.int .i64 0) := Hr_0.out.cell 4
  have r_r5 : v0.cell? ⟨g2, 5, none⟩ = some (.int .i64 0) := Hr_0.out.cell 5
  have r_r6 : v0.cell? ⟨g2, 6, none⟩ = some (.int .i64 0) := Hr_0.out.cell 6
  have z_r0 := Hr_0.out.frozen 0
  have z_r1 := Hr_0.out.frozen 1
  have z_r2 := Hr_0.out.frozen 2
  have z_r3 := Hr_0.out.frozen 3
  have z_r4 := Hr_0.out.frozen 4
  have z_r5 := Hr_0.out.frozen 5
  have z_r6 := Hr_0.out.frozen 6
  have cc := specStateOk_any A n c B m d i0 t0 l0 l1 l2 pl ql v0 HP_0.out HQ_0.out hL.out hR.out hn hm
  rw [hS.out] at cc
  refine (cc).mono ?_
  rintro e v1 ⟨rfl, b1⟩
  have f1 := bthen f0 b1
  have z1 := b1.size
  have HP_1 := Lib.hid (HP_0.out.below b1)
  have HQ_1 := Lib.hid (HQ_0.out.below b1)
  have Ha_1 := Lib.hid (Ha_0.out.below b1)
  have Hb_1 := Lib.hid (Hb_0.out.below b1)
  have Hr_1 := Lib.hid (Hr_0.out.below b1)
  clear lt_a r_a0 r_a1 r_a2 r_a3 r_a4 r_a5 r_a6 lt_b r_b0 r_b1 r_b2 r_b3 r_b4 r_b5 r_b6 r_b7 r_b8 lt_r r_r0 r_r1 r_r2 r_r3 r_r4 r_r5 r_r6 z_r0 z_r1 z_r2 z_r3 z_r4 z_r5 z_r6
  clear HP_0 HQ_0 Ha_0 Hb_0 Hr_0
  clear cc
  have lt_a := Ha_1.out.lt
  have r_a0 : v1.cell? ⟨w.heap.size, 0, none⟩ = some (.int .i64 i0) := Ha_1.out.cell 0
  have r_a1 : v1.cell? ⟨w.heap.size, 1, none⟩ = some (.int .i64 t0) := Ha_1.out.cell 1
  have r_a2 : v1.cell? ⟨w.heap.size, 2, none⟩ = some (.slice A n c) := Ha_1.out.cell 2
  have r_a3 : v1.cell? ⟨w.heap.size, 3, none⟩ = some (.slice B m d) := Ha_1.out.cell 3
  have r_a4 : v1.cell? ⟨w.heap.size, 4, none⟩ = some (.int .i64 l0) := Ha_1.out.cell 4
  have r_a5 : v1.cell? ⟨w.heap.size, 5, none⟩ = some (.int .i64 l1) := Ha_1.out.cell 5
  have r_a6 : v1.cell? ⟨w.heap.size, 6, none⟩ = some (.int .i64 l2) := Ha_1.out.cell 6
  have lt_b := Hb_1.out.lt
  have r_b0 : v1.cell? ⟨g1, 0, none⟩ = some (.int .i64 ex) := Hb_1.out.cell 0
  have r_b1 : v1.cell? ⟨g1, 1, none⟩ = some (.int .i64 et) := Hb_1.out.cell 1
  have r_b2 : v1.cell? ⟨g1, 2, none⟩ = some (.int .i64 ec) := Hb_1.out.cell 2
  have r_b3 : v1.cell? ⟨g1, 3, none⟩ = some (.int .i64 es) := Hb_1.out.cell 3
  have r_b4 : v1.cell? ⟨g1, 4, none⟩ = some (.int .i64 1) := Hb_1.out.cell 4
  have r_b5 : v1.cell? ⟨g1, 5, none⟩ = some (.int .i64 ea) := Hb_1.out.cell 5
  have r_b6 : v1.cell? ⟨g1, 6, none⟩ = some (.int .i64 eb) := Hb_1.out.cell 6
  have r_b7 : v1.cell? ⟨g1, 7, none⟩ = some (.int .i64 eg) := Hb_1.out.cell 7
  have r_b8 : v1.cell? ⟨g1, 8, none⟩ = some (.int .i64 eh) := Hb_1.out.cell 8
  have lt_r := Hr_1.out.lt
  have r_r0 : v1.cell? ⟨g2, 0, none⟩ = some (.int .i64 0) := Hr_1.out.cell 0
  have r_r1 : v1.cell? ⟨g2, 1, none⟩ = some (.int .i64 0) := Hr_1.out.cell 1
  have r_r2 : v1.cell? ⟨g2, 2, none⟩ = some (.slice none 0 0) := Hr_1.out.cell 2
  have r_r3 : v1.cell? ⟨g2, 3, none⟩ = some (.slice none 0 0) := Hr_1.out.cell 3
  have r_r4 : v1.cell? ⟨g2, 4, none⟩ = some (.int .i64 0) := Hr_1.out.cell 4
  have r_r5 : v1.cell? ⟨g2, 5, none⟩ = some (.int .i64 0) := Hr_1.out.cell 5
  have r_r6 : v1.cell? ⟨g2, 6, none⟩ = some (.int .i64 0) := Hr_1.out.cell 6
  have z_r0 := Hr_1.out.frozen 0
  have z_r1 := Hr_1.out.frozen 1
  have z_r2 := Hr_1.out.frozen 2
  have z_r3 := Hr_1.out.frozen 3
  have z_r4 := Hr_1.out.frozen 4
  have z_r5 := Hr_1.out.frozen 5
  have z_r6 := Hr_1.out.frozen 6
  go_wp2_with fail
  refine (l17Copy_any A n c B m d i0 t0 l0 l1 l2 pl ql _ HP_1.out HQ_1.out hL.out hR.out (by omega) (by omega) HA.out HB.out).mono ?_
  rintro e v2 ⟨A5, c5, B5, d5, rfl, R5, R6, hap, b2⟩
  have HAP := Lib.hid hap
  have Lx := Lib.hid R5.lt
  have Ly := Lib.hid R6.lt
  clear hap
  have f2 := bthen f1 b2
  have z2 := b2.size
  have HP_2 := Lib.hid (HP_1.out.below b2)
  have HQ_2 := Lib.hid (HQ_1.out.below b2)
  have Ha_2 := Lib.hid (Ha_1.out.below b2)
  have Hb_2 := Lib.hid (Hb_1.out.below b2)
  have Hr_2 := Lib.hid (Hr_1.out.below b2)
  clear lt_a r_a0 r_a1 r_a2 r_a3 r_a4 r_a5 r_a6 lt_b r_b0 r_b1 r_b2 r_b3 r_b4 r_b5 r_b6 r_b7 r_b8 lt_r r_r0 r_r1 r_r2 r_r3 r_r4 r_r5 r_r6 z_r0 z_r1 z_r2 z_r3 z_r4 z_r5 z_r6
  clear HP_1 HQ_1 Ha_1 Hb_1 Hr_1
  have Hx_2 := Lib.hid R5
  clear R5
  have Hy_2 := Lib.hid R6
  clear R6
  have lt_a := Ha_2.out.lt
  have r_a0 : v2.cell? ⟨w.heap.size, 0, none⟩ = some (.int .i64 i0) := Ha_2.out.cell 0
  have r_a1 : v2.cell? ⟨w.heap.size, 1, none⟩ = some (.int .i64 t0) := Ha_2.out.cell 1
  have r_a2 : v2.cell? ⟨w.heap.size, 2, none⟩ = some (.slice A n c) := Ha_2.out.cell 2
  have r_a3 : v2.cell? ⟨w.heap.size, 3, none⟩ = some (.slice B m d) := Ha_2.out.cell 3
  have r_a4 : v2.cell? ⟨w.heap.size, 4, none⟩ = some (.int .i64 l0) := Ha_2.out.cell 4
  have r_a5 : v2.cell? ⟨w.heap.size, 5, none⟩ = some (.int .i64 l1) := Ha_2.out.cell 5
  have r_a6 : v2.cell? ⟨w.heap.size, 6, none⟩ = some (.int .i64 l2) := Ha_2.out.cell 6
  have lt_b := Hb_2.out.lt
  have r_b0 : v2.cell? ⟨g1, 0, none⟩ = some (.int .i64 ex) := Hb_2.out.cell 0
  have r_b1 : v2.cell? ⟨g1, 1, none⟩ = some (.int .i64 et) := Hb_2.out.cell 1
  have r_b2 : v2.cell? ⟨g1, 2, none⟩ = some (.int .i64 ec) := Hb_2.out.cell 2
  have r_b3 : v2.cell? ⟨g1, 3, none⟩ = some (.int .i64 es) := Hb_2.out.cell 3
  have r_b4 : v2.cell? ⟨g1, 4, none⟩ = some (.int .i64 1) := Hb_2.out.cell 4
  have r_b5 : v2.cell? ⟨g1, 5, none⟩ = some (.int .i64 ea) := Hb_2.out.cell 5
  have r_b6 : v2.cell? ⟨g1, 6, none⟩ = some (.int .i64 eb) := Hb_2.out.cell 6
  have r_b7 : v2.cell? ⟨g1, 7, none⟩ = some (.int .i64 eg) := Hb_2.out.cell 7
  have r_b8 : v2.cell? ⟨g1, 8, none⟩ = some (.int .i64 eh) := Hb_2.out.cell 8
  have lt_r := Hr_2.out.lt
  have r_r0 : v2.cell? ⟨g2, 0, none⟩ = some (.int .i64 0) := Hr_2.out.cell 0
  have r_r1 : v2.cell? ⟨g2, 1, none⟩ = some (.int .i64 0) := Hr_2.out.cell 1
  have r_r2 : v2.cell? ⟨g2, 2, none⟩ = some (.slice none 0 0) := Hr_2.out.cell 2
  have r_r3 : v2.cell? ⟨g2, 3, none⟩ = some (.slice none 0 0) := Hr_2.out.cell 3
  have r_r4 : v2.cell? ⟨g2, 4, none⟩ = some (.int .i64 0) := Hr_2.out.cell 4
  have r_r5 : v2.cell? ⟨g2, 5, none⟩ = some (.int .i64 0) := Hr_2.out.cell 5
  have r_r6 : v2.cell? ⟨g2, 6, none⟩ = some (.int .i64 0) := Hr_2.out.cell 6
  have z_r0 := Hr_2.out.frozen 0
  have z_r1 := Hr_2.out.frozen 1
  have z_r2 := Hr_2.out.frozen 2
  have z_r3 := Hr_2.out.frozen 3
  have z_r4 := Hr_2.out.frozen 4
  have z_r5 := Hr_2.out.frozen 5
  have z_r6 := Hr_2.out.frozen 6
  go_wp2_with fail
  refine calls_named ?_
  rintro v3 hv3
  have f3 : Below w.heap.size w v3 := by rw [hv3]; (repeat' (first | (with_reducible exact Below.refl _ _) | (with_reducible assumption) | (with_reducible refine Below.alloc ?_ ?_ _) | (with_reducible refine Below.drew ?_) | (with_reducible refine Below.setCell ?_ ?_ _) | (with_reducible refine bstep (by assumption) ?_ ?_) | (with_reducible exact Nat.le_refl _) | omega | (simp [*]; done) | (simp [*]; omega)))
  have z3 : v2.heap.size + 1 ≤ v3.heap.size := by rw [hv3]; simp [size_set]
  have HP_3 : Hid (Sl v3 2 A n (PR pl)) := by rw [hv3]; exact (HP_2.out).alloc _
  have HQ_3 : Hid (Sl v3 5 B m (JB ql)) := by rw [hv3]; exact (HQ_2.out).alloc _
  have Ha_3 : Hid (Blk v3 w.heap.size 37 #[.int .i64 i0, .int .i64 t0, .slice A n c, .slice B m d, .int .i64 l0, .int .i64 l1, .int .i64 l2]) := by rw [hv3]; exact (Ha_2.out).alloc _
  have Hb_3 : Hid (Blk v3 g1 43 #[.int .i64 ex, .int .i64 et, .int .i64 ec, .int .i64 es, .int .i64 1, .int .i64 ea, .int .i64 eb, .int .i64 eg, .int .i64 eh]) := by rw [hv3]; exact (Hb_2.out).alloc _
  have Hr_3 : Hid (Blk v3 g2 37 #[.int .i64 0, .int .i64 0, .slice none 0 0, .slice none 0 0, .int .i64 0, .int .i64 0, .int .i64 0]) := by rw [hv3]; exact (Hr_2.out).alloc _
  have Hx_3 : Hid (Row v3 v1.heap.size 106 2 A5 n c5 (PR pl)) := by rw [hv3]; exact (Hx_2.out).alloc _
  have Hy_3 : Hid (Row v3 v1.heap.size 71 5 B5 m d5 (JB ql)) := by rw [hv3]; exact (Hy_2.out).alloc _
  have Hz_3 : Hid (Blk v3 v2.heap.size 37 #[.int .i64 i0, .int .i64 t0, .slice A5 n c5, .slice B5 m d5, .int .i64 l0, .int .i64 l1, .int .i64 l2]) := by rw [hv3]; exact (Blk.new_at _ _ _ _ (by simp [size_set]))
  clear lt_a r_a0 r_a1 r_a2 r_a3 r_a4 r_a5 r_a6 lt_b r_b0 r_b1 r_b2 r_b3 r_b4 r_b5 r_b6 r_b7 r_b8 lt_r r_r0 r_r1 r_r2 r_r3 r_r4 r_r5 r_r6 z_r0 z_r1 z_r2 z_r3 z_r4 z_r5 z_r6
  clear hv3 HP_2 HQ_2 Ha_2 Hb_2 Hr_2 Hx_2 Hy_2
  have lt_a := Ha_3.out.lt
  have r_a0 : v3.cell? ⟨w.heap.size, 0, none⟩ = some (.int .i64 i0) := Ha_3.out.cell 0
  have r_a1 : v3.cell? ⟨w.heap.size, 1, none⟩ = some (.int .i64 t0) := Ha_3.out.cell 1
  have r_a2 : v3.cell? ⟨w.heap.size, 2, none⟩ = some (.slice A n c) := Ha_3.out.cell 2
  have r_a3 : v3.cell? ⟨w.heap.size, 3, none⟩ = some (.slice B m d) := Ha_3.out.cell 3
  have r_a4 : v3.cell? ⟨w.heap.size, 4, none⟩ = some (.int .i64 l0) := Ha_3.out.cell 4
  have r_a5 : v3.cell? ⟨w.heap.size, 5, none⟩ = some (.int .i64 l1) := Ha_3.out.cell 5
  have r_a6 : v3.cell? ⟨w.heap.size, 6, none⟩ = some (.int .i64 l2) := Ha_3.out.cell 6
  have lt_b := Hb_3.out.lt
  have r_b0 : v3.cell? ⟨g1, 0, none⟩ = some (.int .i64 ex) := Hb_3.out.cell 0
  have r_b1 : v3.cell? ⟨g1, 1, none⟩ = some (.int .i64 et) := Hb_3.out.cell 1
  have r_b2 : v3.cell? ⟨g1, 2, none⟩ = some (.int .i64 ec) := Hb_3.out.cell 2
  have r_b3 : v3.cell? ⟨g1, 3, none⟩ = some (.int .i64 es) := Hb_3.out.cell 3
  have r_b4 : v3.cell? ⟨g1, 4, none⟩ = some (.int .i64 1) := Hb_3.out.cell 4
  have r_b5 : v3.cell? ⟨g1, 5, none⟩ = some (.int .i64 ea) := Hb_3.out.cell 5
  have r_b6 : v3.cell? ⟨g1, 6, none⟩ = some (.int .i64 eb) := Hb_3.out.cell 6
  have r_b7 : v3.cell? ⟨g1, 7, none⟩ = some (.int .i64 eg) := Hb_3.out.cell 7
  have r_b8 : v3.cell? ⟨g1, 8, none⟩ = some (.int .i64 eh) := Hb_3.out.cell 8
  have lt_r := Hr_3.out.lt
  have r_r0 : v3.cell? ⟨g2, 0, none⟩ = some (.int .i64 0) := Hr_3.out.cell 0
  have r_r1 : v3.cell? ⟨g2, 1, none⟩ = some (.int .i64 0) := Hr_3.out.cell 1
  have r_r2 : v3.cell? ⟨g2, 2, none⟩ = some (.slice none 0 0) := Hr_3.out.cell 2
  have r_r3 : v3.cell? ⟨g2, 3, none⟩ = some (.slice none 0 0) := Hr_3.out.cell 3
  have r_r4 : v3.cell? ⟨g2, 4, none⟩ = some (.int .i64 0) := Hr_3.out.cell 4
  have r_r5 : v3.cell? ⟨g2, 5, none⟩ = some (.int .i64 0) := Hr_3.out.cell 5
  have r_r6 : v3.cell? ⟨g2, 6, none⟩ = some (.int .i64 0) := Hr_3.out.cell 6
  have z_r0 := Hr_3.out.frozen 0
  have z_r1 := Hr_3.out.frozen 1
  have z_r2 := Hr_3.out.frozen 2
  have z_r3 := Hr_3.out.frozen 3
  have z_r4 := Hr_3.out.frozen 4
  have z_r5 := Hr_3.out.frozen 5
  have z_r6 := Hr_3.out.frozen 6
  have lt_z := Hz_3.out.lt
  have r_z0 : v3.cell? ⟨v2.heap.size, 0, none⟩ = some (.int .i64 i0) := Hz_3.out.cell 0
  have r_z1 : v3.cell? ⟨v2.heap.size, 1, none⟩ = some (.int .i64 t0) := Hz_3.out.cell 1
  have r_z2 : v3.cell? ⟨v2.heap.size, 2, none⟩ = some (.slice A5 n c5) := Hz_3.out.cell 2
  have r_z3 : v3.cell? ⟨v2.heap.size, 3, none⟩ = some (.slice B5 m d5) := Hz_3.out.cell 3
  have r_z4 : v3.cell? ⟨v2.heap.size, 4, none⟩ = some (.int .i64 l0) := Hz_3.out.cell 4
  have r_z5 : v3.cell? ⟨v2.heap.size, 5, none⟩ = some (.int .i64 l1) := Hz_3.out.cell 5
  have r_z6 : v3.cell? ⟨v2.heap.size, 6, none⟩ = some (.int .i64 l2) := Hz_3.out.cell 6
  have z_z0 := Hz_3.out.frozen 0
  have z_z1 := Hz_3.out.frozen 1
  have z_z2 := Hz_3.out.frozen 2
  have z_z3 := Hz_3.out.frozen 3
  have z_z4 := Hz_3.out.frozen 4
  have z_z5 := Hz_3.out.frozen 5
  have z_z6 := Hz_3.out.frozen 6
  have cc := specEffectOf_any A n c B m d i0 t0 l0 l1 l2 pl ql ex et ec es 1 ea eb eg eh v3 HP_3.out HQ_3.out hL.out hR.out hn hm HA.out HB.out _ hx.out
  refine (cc).mono ?_
  rintro e v4 ⟨rfl, b4⟩
  have f4 := bthen f3 b4
  have z4 := b4.size
  have HP_4 := Lib.hid (HP_3.out.below b4)
  have HQ_4 := Lib.hid (HQ_3.out.below b4)
  have Ha_4 := Lib.hid (Ha_3.out.below b4)
  have Hb_4 := Lib.hid (Hb_3.out.below b4)
  have Hr_4 := Lib.hid (Hr_3.out.below b4)
  have Hx_4 := Lib.hid (Hx_3.out.below b4)
  have Hy_4 := Lib.hid (Hy_3.out.below b4)
  have Hz_4 := Lib.hid (Hz_3.out.below b4)
  clear lt_a r_a0 r_a1 r_a2 r_a3 r_a4 r_a5 r_a6 lt_b r_b0 r_b1 r_b2 r_b3 r_b4 r_b5 r_b6 r_b7 r_b8 lt_r r_r0 r_r1 r_r2 r_r3 r_r4 r_r5 r_r6 z_r0 z_r1 z_r2 z_r3 z_r4 z_r5 z_r6 lt_z r_z0 r_z1 r_z2 r_z3 r_z4 r_z5 r_z6 z_z0 z_z1 z_z2 z_z3 z_z4 z_z5 z_z6
  clear HP_3 HQ_3 Ha_3 Hb_3 Hr_3 Hx_3 Hy_3 Hz_3
  clear cc
  have lt_a := Ha_4.out.lt
  have r_a0 : v4.cell? ⟨w.heap.size, 0, none⟩ = some (.int .i64 i0) := Ha_4.out.cell 0
  have r_a1 : v4.cell? ⟨w.heap.size, 1, none⟩ = some (.int .i64 t0) := Ha_4.out.cell 1
  have r_a2 : v4.cell? ⟨w.heap.size, 2, none⟩ = some (.slice A n c) := Ha_4.out.cell 2
  have r_a3 : v4.cell? ⟨w.heap.size, 3, none⟩ = some (.slice B m d) := Ha_4.out.cell 3
  have r_a4 : v4.cell? ⟨w.heap.size, 4, none⟩ = some (.int .i64 l0) := Ha_4.out.cell 4
  have r_a5 : v4.cell? ⟨w.heap.size, 5, none⟩ = some (.int .i64 l1) := Ha_4.out.cell 5
  have r_a6 : v4.cell? ⟨w.heap.size, 6, none⟩ = some (.int .i64 l2) := Ha_4.out.cell 6
  have lt_b := Hb_4.out.lt
  have r_b0 : v4.cell? ⟨g1, 0, none⟩ = some (.int .i64 ex) := Hb_4.out.cell 0
  have r_b1 : v4.cell? ⟨g1, 1, none⟩ = some (.int .i64 et) := Hb_4.out.cell 1
  have r_b2 : v4.cell? ⟨g1, 2, none⟩ = some (.int .i64 ec) := Hb_4.out.cell 2
  have r_b3 : v4.cell? ⟨g1, 3, none⟩ = some (.int .i64 es) := Hb_4.out.cell 3
  have r_b4 : v4.cell? ⟨g1, 4, none⟩ = some (.int .i64 1) := Hb_4.out.cell 4
  have r_b5 : v4.cell? ⟨g1, 5, none⟩ = some (.int .i64 ea) := Hb_4.out.cell 5
  have r_b6 : v4.cell? ⟨g1, 6, none⟩ = some (.int .i64 eb) := Hb_4.out.cell 6
  have r_b7 : v4.cell? ⟨g1, 7, none⟩ = some (.int .i64 eg) := Hb_4.out.cell 7
  have r_b8 : v4.cell? ⟨g1, 8, none⟩ = some (.int .i64 eh) := Hb_4.out.cell 8
  have lt_r := Hr_4.out.lt
  have r_r0 : v4.cell? ⟨g2, 0, none⟩ = some (.int .i64 0) := Hr_4.out.cell 0
  have r_r1 : v4.cell? ⟨g2, 1, none⟩ = some (.int .i64 0) := Hr_4.out.cell 1
  have r_r2 : v4.cell? ⟨g2, 2, none⟩ = some (.slice none 0 0) := Hr_4.out.cell 2
  have r_r3 : v4.cell? ⟨g2, 3, none⟩ = some (.slice none 0 0) := Hr_4.out.cell 3
  have r_r4 : v4.cell? ⟨g2, 4, none⟩ = some (.int .i64 0) := Hr_4.out.cell 4
  have r_r5 : v4.cell? ⟨g2, 5, none⟩ = some (.int .i64 0) := Hr_4.out.cell 5
  have r_r6 : v4.cell? ⟨g2, 6, none⟩ = some (.int .i64 0) := Hr_4.out.cell 6
  have z_r0 := Hr_4.out.frozen 0
  have z_r1 := Hr_4.out.frozen 1
  have z_r2 := Hr_4.out.frozen 2
  have z_r3 := Hr_4.out.frozen 3
  have z_r4 := Hr_4.out.frozen 4
  have z_r5 := Hr_4.out.frozen 5
  have z_r6 := Hr_4.out.frozen 6
  have lt_z := Hz_4.out.lt
  have r_z0 : v4.cell? ⟨v2.heap.size, 0, none⟩ = some (.int .i64 i0) := Hz_4.out.cell 0
  have r_z1 : v4.cell? ⟨v2.heap.size, 1, none⟩ = some (.int .i64 t0) := Hz_4.out.cell 1
  have r_z2 : v4.cell? ⟨v2.heap.size, 2, none⟩ = some (.slice A5 n c5) := Hz_4.out.cell 2
  have r_z3 : v4.cell? ⟨v2.heap.size, 3, none⟩ = some (.slice B5 m d5) := Hz_4.out.cell 3
  have r_z4 : v4.cell? ⟨v2.heap.size, 4, none⟩ = some (.int .i64 l0) := Hz_4.out.cell 4
  have r_z5 : v4.cell? ⟨v2.heap.size, 5, none⟩ = some (.int .i64 l1) := Hz_4.out.cell 5
  have r_z6 : v4.cell? ⟨v2.heap.size, 6, none⟩ = some (.int .i64 l2) := Hz_4.out.cell 6
  have z_z0 := Hz_4.out.frozen 0
  have z_z1 := Hz_4.out.frozen 1
  have z_z2 := Hz_4.out.frozen 2
  have z_z3 := Hz_4.out.frozen 3
  have z_z4 := Hz_4.out.frozen 4
  have z_z5 := Hz_4.out.frozen 5
  have z_z6 := Hz_4.out.frozen 6
  go_wp2_with fail
  refine calls_named ?_
  rintro v5 hv5
  have f5 : Below w.heap.size w v5 := by rw [hv5]; (repeat' (first | (with_reducible exact Below.refl _ _) | (with_reducible assumption) | (with_reducible refine Below.alloc ?_ ?_ _) | (with_reducible refine Below.drew ?_) | (with_reducible refine Below.setCell ?_ ?_ _) | (with_reducible refine bstep (by assumption) ?_ ?_) | (with_reducible exact Nat.le_refl _) | omega | (simp [*]; done) | (simp [*]; omega)))
  have z5 : v4.heap.size + 0 ≤ v5.heap.size := by rw [hv5]; simp [size_set]
  have HP_5 : Hid (Sl v5 2 A n (PR pl)) := by rw [hv5]; exact ((HP_4.out).far (p := ⟨v2.heap.size, 0, none⟩) (fun hn a ha => by have := HP_lt.out hn a ha; show a.block ≠ v2.heap.size; omega) _).far (p := ⟨v2.heap.size, 1, none⟩) (fun hn a ha => by have := HP_lt.out hn a ha; show a.block ≠ v2.heap.size; omega) _
  have HQ_5 : Hid (Sl v5 5 B m (JB ql)) := by rw [hv5]; exact ((HQ_4.out).far (p := ⟨v2.heap.size, 0, none⟩) (fun hn a ha => by have := HQ_lt.out hn a ha; show a.block ≠ v2.heap.size; omega) _).far (p := ⟨v2.heap.size, 1, none⟩) (fun hn a ha => by have := HQ_lt.out hn a ha; show a.block ≠ v2.heap.size; omega) _
  have Ha_5 : Hid (Blk v5 w.heap.size 37 #[.int .i64 i0, .int .i64 t0, .slice A n c, .slice B m d, .int .i64 l0, .int .i64 l1, .int .i64 l2]) := by rw [hv5]; exact ((Ha_4.out).far (p := ⟨v2.heap.size, 0, none⟩) (show w.heap.size ≠ v2.heap.size by omega) _).far (p := ⟨v2.heap.size, 1, none⟩) (show w.heap.size ≠ v2.heap.size by omega) _
  have Hb_5 : Hid (Blk v5 g1 43 #[.int .i64 ex, .int .i64 et, .int .i64 ec, .int .i64 es, .int .i64 1, .int .i64 ea, .int .i64 eb, .int .i64 eg, .int .i64 eh]) := by rw [hv5]; exact ((Hb_4.out).far (p := ⟨v2.heap.size, 0, none⟩) (show g1 ≠ v2.heap.size by omega) _).far (p := ⟨v2.heap.size, 1, none⟩) (show g1 ≠ v2.heap.size by omega) _
  have Hr_5 : Hid (Blk v5 g2 37 #[.int .i64 0, .int .i64 0, .slice none 0 0, .slice none 0 0, .int .i64 0, .int .i64 0, .int .i64 0]) := by rw [hv5]; exact ((Hr_4.out).far (p := ⟨v2.heap.size, 0, none⟩) (show g2 ≠ v2.heap.size by omega) _).far (p := ⟨v2.heap.size, 1, none⟩) (show g2 ≠ v2.heap.size by omega) _
  have Hx_5 : Hid (Row v5 v1.heap.size 106 2 A5 n c5 (PR pl)) := by rw [hv5]; exact ((Hx_4.out).far (p := ⟨v2.heap.size, 0, none⟩) (fun a ha => by have := Lx.out a ha; show a.block ≠ v2.heap.size; omega) _).far (p := ⟨v2.heap.size, 1, none⟩) (fun a ha => by have := Lx.out a ha; show a.block ≠ v2.heap.size; omega) _
  have Hy_5 : Hid (Row v5 v1.heap.size 71 5 B5 m d5 (JB ql)) := by rw [hv5]; exact ((Hy_4.out).far (p := ⟨v2.heap.size, 0, none⟩) (fun a ha => by have := Ly.out a ha; show a.block ≠ v2.heap.size; omega) _).far (p := ⟨v2.heap.size, 1, none⟩) (fun a ha => by have := Ly.out a ha; show a.block ≠ v2.heap.size; omega) _
  have Hz_5 : Hid (Blk v5 v2.heap.size 37 #[.int .i64 ex, .int .i64 et, .slice A5 n c5, .slice B5 m d5, .int .i64 l0, .int .i64 l1, .int .i64 l2]) := by rw [hv5]; exact ((Hz_4.out).set_ 0 _).set_ 1 _
  clear lt_a r_a0 r_a1 r_a2 r_a3 r_a4 r_a5 r_a6 lt_b r_b0 r_b1 r_b2 r_b3 r_b4 r_b5 r_b6 r_b7 r_b8 lt_r r_r0 r_r1 r_r2 r_r3 r_r4 r_r5 r_r6 z_r0 z_r1 z_r2 z_r3 z_r4 z_r5 z_r6 lt_z r_z0 r_z1 r_z2 r_z3 r_z4 r_z5 r_z6 z_z0 z_z1 z_z2 z_z3 z_z4 z_z5 z_z6
  clear hv5 HP_4 HQ_4 Ha_4 Hb_4 Hr_4 Hx_4 Hy_4 Hz_4
  have lt_a := Ha_5.out.lt
  have r_a0 : v5.cell? ⟨w.heap.size, 0, none⟩ = some (.int .i64 i0) := Ha_5.out.cell 0
  have r_a1 : v5.cell? ⟨w.heap.size, 1, none⟩ = some (.int .i64 t0) := Ha_5.out.cell 1
  have r_a2 : v5.cell? ⟨w.heap.size, 2, none⟩ = some (.slice A n c) := Ha_5.out.cell 2
  have r_a3 : v5.cell? ⟨w.heap.size, 3, none⟩ = some (.slice B m d) := Ha_5.out.cell 3
  have r_a4 : v5.cell? ⟨w.heap.size, 4, none⟩ = some (.int .i64 l0) := Ha_5.out.cell 4
  have r_a5 : v5.cell? ⟨w.heap.size, 5, none⟩ = some (.int .i64 l1) := Ha_5.out.cell 5
  have r_a6 : v5.cell? ⟨w.heap.size, 6, none⟩ = some (.int .i64 l2) := Ha_5.out.cell 6
  have lt_b := Hb_5.out.lt
  have r_b0 : v5.cell? ⟨g1, 0, none⟩ = some (.int .i64 ex) := Hb_5.out.cell 0
  have r_b1 : v5.cell? ⟨g1, 1, none⟩ = some (.int .i64 et) := Hb_5.out.cell 1
  have r_b2 : v5.cell? ⟨g1, 2, none⟩ = some (.int .i64 ec) := Hb_5.out.cell 2
  have r_b3 : v5.cell? ⟨g1, 3, none⟩ = some (.int .i64 es) := Hb_5.out.cell 3
  have r_b4 : v5.cell? ⟨g1, 4, none⟩ = some (.int .i64 1) := Hb_5.out.cell 4
  have r_b5 : v5.cell? ⟨g1, 5, none⟩ = some (.int .i64 ea) := Hb_5.out.cell 5
  have r_b6 : v5.cell? ⟨g1, 6, none⟩ = some (.int .i64 eb) := Hb_5.out.cell 6
  have r_b7 : v5.cell? ⟨g1, 7, none⟩ = some (.int .i64 eg) := Hb_5.out.cell 7
  have r_b8 : v5.cell? ⟨g1, 8, none⟩ = some (.int .i64 eh) := Hb_5.out.cell 8
  have lt_r := Hr_5.out.lt
  have r_r0 : v5.cell? ⟨g2, 0, none⟩ = some (.int .i64 0) := Hr_5.out.cell 0
  have r_r1 : v5.cell? ⟨g2, 1, none⟩ = some (.int .i64 0) := Hr_5.out.cell 1
  have r_r2 : v5.cell? ⟨g2, 2, none⟩ = some (.slice none 0 0) := Hr_5.out.cell 2
  have r_r3 : v5.cell? ⟨g2, 3, none⟩ = some (.slice none 0 0) := Hr_5.out.cell 3
  have r_r4 : v5.cell? ⟨g2, 4, none⟩ = some (.int .i64 0) := Hr_5.out.cell 4
  have r_r5 : v5.cell? ⟨g2, 5, none⟩ = some (.int .i64 0) := Hr_5.out.cell 5
  have r_r6 : v5.cell? ⟨g2, 6, none⟩ = some (.int .i64 0) := Hr_5.out.cell 6
  have z_r0 := Hr_5.out.frozen 0
  have z_r1 := Hr_5.out.frozen 1
  have z_r2 := Hr_5.out.frozen 2
  have z_r3 := Hr_5.out.frozen 3
  have z_r4 := Hr_5.out.frozen 4
  have z_r5 := Hr_5.out.frozen 5
  have z_r6 := Hr_5.out.frozen 6
  have lt_z := Hz_5.out.lt
  have r_z0 : v5.cell? ⟨v2.heap.size, 0, none⟩ = some (.int .i64 ex) := Hz_5.out.cell 0
  have r_z1 : v5.cell? ⟨v2.heap.size, 1, none⟩ = some (.int .i64 et) := Hz_5.out.cell 1
  have r_z2 : v5.cell? ⟨v2.heap.size, 2, none⟩ = some (.slice A5 n c5) := Hz_5.out.cell 2
  have r_z3 : v5.cell? ⟨v2.heap.size, 3, none⟩ = some (.slice B5 m d5) := Hz_5.out.cell 3
  have r_z4 : v5.cell? ⟨v2.heap.size, 4, none⟩ = some (.int .i64 l0) := Hz_5.out.cell 4
  have r_z5 : v5.cell? ⟨v2.heap.size, 5, none⟩ = some (.int .i64 l1) := Hz_5.out.cell 5
  have r_z6 : v5.cell? ⟨v2.heap.size, 6, none⟩ = some (.int .i64 l2) := Hz_5.out.cell 6
  have z_z0 := Hz_5.out.frozen 0
  have z_z1 := Hz_5.out.frozen 1
  have z_z2 := Hz_5.out.frozen 2
  have z_z3 := Hz_5.out.frozen 3
  have z_z4 := Hz_5.out.frozen 4
  have z_z5 := Hz_5.out.frozen 5
  have z_z6 := Hz_5.out.frozen 6
  have cc := putRS_any A n c pl ea eb v5 HP_5.out hL.out hn HA.out
  rw [hv.out] at cc
  replace cc := cc.mono (fun _ _ h => Lib.hid h)
  have HX : ∀ e w1, RetRowB v5 106 2 (p2, ok).1.length (PR (p2, ok).1) (p2, ok).2 e w1 → RetRowB v5 106 2 k2 (PR p2) ok e w1 := fun e w1 h => by
    have := hk2.out
    subst this
    exact h
  refine cc.mono ?_
  rintro e v6 hx_
  obtain ⟨A6, c6, rfl, R7, b6⟩ := HX _ _ hx_.out
  clear HX hx_ cc
  have Mu := Lib.hid (show v2.heap.size < v5.heap.size from by have := Hz_5.out.lt; exact this)
  have f6 := bthen f5 b6
  have z6 := b6.size
  have HP_6 := Lib.hid (HP_5.out.below b6)
  have HQ_6 := Lib.hid (HQ_5.out.below b6)
  have Ha_6 := Lib.hid (Ha_5.out.below b6)
  have Hb_6 := Lib.hid (Hb_5.out.below b6)
  have Hr_6 := Lib.hid (Hr_5.out.below b6)
  have Hx_6 := Lib.hid (Hx_5.out.below b6)
  have Hy_6 := Lib.hid (Hy_5.out.below b6)
  have Hz_6 := Lib.hid (Hz_5.out.below b6)
  clear lt_a r_a0 r_a1 r_a2 r_a3 r_a4 r_a5 r_a6 lt_b r_b0 r_b1 r_b2 r_b3 r_b4 r_b5 r_b6 r_b7 r_b8 lt_r r_r0 r_r1 r_r2 r_r3 r_r4 r_r5 r_r6 z_r0 z_r1 z_r2 z_r3 z_r4 z_r5 z_r6 lt_z r_z0 r_z1 r_z2 r_z3 r_z4 r_z5 r_z6 z_z0 z_z1 z_z2 z_z3 z_z4 z_z5 z_z6
  clear HP_5 HQ_5 Ha_5 Hb_5 Hr_5 Hx_5 Hy_5 Hz_5
  have Hu_6 := Lib.hid R7
  clear R7
  have lt_a := Ha_6.out.lt
  have r_a0 : v6.cell? ⟨w.heap.size, 0, none⟩ = some (.int .i64 i0) := Ha_6.out.cell 0
  have r_a1 : v6.cell? ⟨w.heap.size, 1, none⟩ = some (.int .i64 t0) := Ha_6.out.cell 1
  have r_a2 : v6.cell? ⟨w.heap.size, 2, none⟩ = some (.slice A n c) := Ha_6.out.cell 2
  have r_a3 : v6.cell? ⟨w.heap.size, 3, none⟩ = some (.slice B m d) := Ha_6.out.cell 3
  have r_a4 : v6.cell? ⟨w.heap.size, 4, none⟩ = some (.int .i64 l0) := Ha_6.out.cell 4
  have r_a5 : v6.cell? ⟨w.heap.size, 5, none⟩ = some (.int .i64 l1) := Ha_6.out.cell 5
  have r_a6 : v6.cell? ⟨w.heap.size, 6, none⟩ = some (.int .i64 l2) := Ha_6.out.cell 6
  have lt_b := Hb_6.out.lt
  have r_b0 : v6.cell? ⟨g1, 0, none⟩ = some (.int .i64 ex) := Hb_6.out.cell 0
  have r_b1 : v6.cell? ⟨g1, 1, none⟩ = some (.int .i64 et) := Hb_6.out.cell 1
  have r_b2 : v6.cell? ⟨g1, 2, none⟩ = some (.int .i64 ec) := Hb_6.out.cell 2
  have r_b3 : v6.cell? ⟨g1, 3, none⟩ = some (.int .i64 es) := Hb_6.out.cell 3
  have r_b4 : v6.cell? ⟨g1, 4, none⟩ = some (.int .i64 1) := Hb_6.out.cell 4
  have r_b5 : v6.cell? ⟨g1, 5, none⟩ = some (.int .i64 ea) := Hb_6.out.cell 5
  have r_b6 : v6.cell? ⟨g1, 6, none⟩ = some (.int .i64 eb) := Hb_6.out.cell 6
  have r_b7 : v6.cell? ⟨g1, 7, none⟩ = some (.int .i64 eg) := Hb_6.out.cell 7
  have r_b8 : v6.cell? ⟨g1, 8, none⟩ = some (.int .i64 eh) := Hb_6.out.cell 8
  have lt_r := Hr_6.out.lt
  have r_r0 : v6.cell? ⟨g2, 0, none⟩ = some (.int .i64 0) := Hr_6.out.cell 0
  have r_r1 : v6.cell? ⟨g2, 1, none⟩ = some (.int .i64 0) := Hr_6.out.cell 1
  have r_r2 : v6.cell? ⟨g2, 2, none⟩ = some (.slice none 0 0) := Hr_6.out.cell 2
  have r_r3 : v6.cell? ⟨g2, 3, none⟩ = some (.slice none 0 0) := Hr_6.out.cell 3
  have r_r4 : v6.cell? ⟨g2, 4, none⟩ = some (.int .i64 0) := Hr_6.out.cell 4
  have r_r5 : v6.cell? ⟨g2, 5, none⟩ = some (.int .i64 0) := Hr_6.out.cell 5
  have r_r6 : v6.cell? ⟨g2, 6, none⟩ = some (.int .i64 0) := Hr_6.out.cell 6
  have z_r0 := Hr_6.out.frozen 0
  have z_r1 := Hr_6.out.frozen 1
  have z_r2 := Hr_6.out.frozen 2
  have z_r3 := Hr_6.out.frozen 3
  have z_r4 := Hr_6.out.frozen 4
  have z_r5 := Hr_6.out.frozen 5
  have z_r6 := Hr_6.out.frozen 6
  have lt_z := Hz_6.out.lt
  have r_z0 : v6.cell? ⟨v2.heap.size, 0, none⟩ = some (.int .i64 ex) := Hz_6.out.cell 0
  have r_z1 : v6.cell? ⟨v2.heap.size, 1, none⟩ = some (.int .i64 et) := Hz_6.out.cell 1
  have r_z2 : v6.cell? ⟨v2.heap.size, 2, none⟩ = some (.slice A5 n c5) := Hz_6.out.cell 2
  have r_z3 : v6.cell? ⟨v2.heap.size, 3, none⟩ = some (.slice B5 m d5) := Hz_6.out.cell 3
  have r_z4 : v6.cell? ⟨v2.heap.size, 4, none⟩ = some (.int .i64 l0) := Hz_6.out.cell 4
  have r_z5 : v6.cell? ⟨v2.heap.size, 5, none⟩ = some (.int .i64 l1) := Hz_6.out.cell 5
  have r_z6 : v6.cell? ⟨v2.heap.size, 6, none⟩ = some (.int .i64 l2) := Hz_6.out.cell 6
  have z_z0 := Hz_6.out.frozen 0
  have z_z1 := Hz_6.out.frozen 1
  have z_z2 := Hz_6.out.frozen 2
  have z_z3 := Hz_6.out.frozen 3
  have z_z4 := Hz_6.out.frozen 4
  have z_z5 := Hz_6.out.frozen 5
  have z_z6 := Hz_6.out.frozen 6
  have hap2 : ∀ a b, A6 = some a → B5 = some b → a.block ≠ b.block := fun a b ha hb => by
    have h1 := Ly.out b hb
    have h2 := Hu_6.out.ge a ha
    omega
  have HAP2 := Lib.hid hap2
  clear hap2
  go_wp21
  refine bodyPost_ret (v := .tuple #[.agg #[.int .i64 ex, .int .i64 et, .slice A6 k2 c6, .slice B5 m d5, .int .i64 l0, .int .i64 l1, .int .i64 l2], .bool true]) (by simp [results, Tryz.results7, go_sem, *]) rfl ?_
  have nu : ∀ a, A6 = some a → a.block ≠ g2 := fun a ha => by have := Hu_6.out.ge a ha; omega
  have nzu : ∀ a, A6 = some a → a.block ≠ v2.heap.size := fun a ha => by have := Hu_6.out.ge a ha; have h9 := Mu.out; omega
  have ny : ∀ a, B5 = some a → a.block ≠ g2 := fun a ha => by have := Hy_6.out.ge a ha; omega
  have nzy : ∀ a, B5 = some a → a.block ≠ v2.heap.size := fun a ha => by have := Ly.out a ha; omega
  exact RetStateV.mk hk2.out hR.out (row_far7 (((Hu_6.out).far (p := ⟨v2.heap.size, 2, none⟩) nzu _).mono (by omega)) nu _ _ _ _ _ _ _) (row_far7 (((Hy_6.out).far (p := ⟨v2.heap.size, 2, none⟩) nzy _).mono (by omega)) ny _ _ _ _ _ _ _) HAP2.out (by (repeat' (first | (with_reducible exact Below.refl _ _) | (with_reducible assumption) | (with_reducible refine Below.alloc ?_ ?_ _) | (with_reducible refine Below.drew ?_) | (with_reducible refine Below.setCell ?_ ?_ _) | (with_reducible refine bstep (by assumption) ?_ ?_) | (with_reducible exact Nat.le_refl _) | omega | (simp [*]; done) | (simp [*]; omega))))
set_option maxRecDepth 100000 in
set_option maxHeartbeats 4000000 in
theorem specApp_2 (A : Option Addr) (n c : Nat) (B : Option Addr) (m d : Nat) (i0 t0 l0 l1 l2 : Int) (pl : List Pr) (ql : List Jb) (ex et ec es ea eb eg eh : Int) (w : World) (hP : Sl w 2 A n (PR pl)) (hQ : Sl w 5 B m (JB ql)) (hl : pl.length = n) (hr : ql.length = m) (hn : n ≤ maxLen) (hm : m ≤ maxLen) (hA : A = none → n = 0 ∧ c = 0) (hB : B = none → m = 0 ∧ d = 0) (hS : Hid (stateB i0 t0 l0 l1 l2 pl ql = true)) (hn10 : n ≤ 10) (hm8 : m ≤ 8) (hx : Hid (effI i0 t0 l0 l1 l2 pl ql ex et ec es 2 ea eb eg eh = 2)) (p2 : List Pr) (ok : Bool) (k2 : Nat) (hv : Hid (cutR pl ea = (p2, ok))) (hk2 : Hid (p2.length = k2)) :
    Calls Tryz.prog 7 #[.agg #[.int .i64 i0, .int .i64 t0, .slice A n c, .slice B m d, .int .i64 l0, .int .i64 l1, .int .i64 l2], .agg #[.int .i64 ex, .int .i64 et, .int .i64 ec, .int .i64 es, .int .i64 2, .int .i64 ea, .int .i64 eb, .int .i64 eg, .int .i64 eh]] w (RetStateV w ex et l0 l1 l2 p2.length (PR p2) ql.length (JB ql) (.bool true)) := by
  have HP := Lib.hid hP
  have HQ := Lib.hid hQ
  have HA := Lib.hid hA
  have HB := Lib.hid hB
  have hL := Lib.hid hl
  have hR := Lib.hid hr
  clear hP hQ hA hB hl hr
  go_enter Tryz.func7, Tryz.ntmps7
  go_wp2_with fail
  refine calls_named ?_
  rintro v0 hv0
  have f0 : Below w.heap.size w v0 := by rw [hv0]; (repeat' (first | (with_reducible exact Below.refl _ _) | (with_reducible assumption) | (with_reducible refine Below.alloc ?_ ?_ _) | (with_reducible refine Below.drew ?_) | (with_reducible refine Below.setCell ?_ ?_ _) | (with_reducible refine bstep (by assumption) ?_ ?_) | (with_reducible exact Nat.le_refl _) | omega | (simp [*]; done) | (simp [*]; omega)))
  have z0 : w.heap.size + 3 ≤ v0.heap.size := by rw [hv0]; simp [size_set]
  have HP_0 := Lib.hid (HP.out.below f0)
  have HP_lt := Lib.hid (fun hn => HP.out.lt hn)
  have HQ_0 := Lib.hid (HQ.out.below f0)
  have HQ_lt := Lib.hid (fun hn => HQ.out.lt hn)
  have Ha_0 : Hid (Blk v0 w.heap.size 37 #[.int .i64 i0, .int .i64 t0, .slice A n c, .slice B m d, .int .i64 l0, .int .i64 l1, .int .i64 l2]) := by rw [hv0]; exact ((Blk.new_at _ _ _ _ (by simp)).alloc _).alloc _
  have Hb_0 : Hid (Blk v0 (w.heap.size + 1) 43 #[.int .i64 ex, .int .i64 et, .int .i64 ec, .int .i64 es, .int .i64 2, .int .i64 ea, .int .i64 eb, .int .i64 eg, .int .i64 eh]) := by rw [hv0]; exact (Blk.new_at _ _ _ _ (by simp)).alloc _
  have Hr_0 : Hid (Blk v0 (w.heap.size + 1 + 1) 37 #[.int .i64 0, .int .i64 0, .slice none 0 0, .slice none 0 0, .int .i64 0, .int .i64 0, .int .i64 0]) := by rw [hv0]; exact Blk.new_at _ _ _ _ (by simp)
  clear hv0
  generalize hg2 : w.heap.size + 1 + 1 = g2 at *
  generalize hg1 : w.heap.size + 1 = g1 at *
  have lg1 : w.heap.size < g1 := by omega
  have lg2 : g1 < g2 := by omega
  have lgz : g2 < v0.heap.size := by omega
  have nq1x0 : ¬ g1 = w.heap.size := by omega
  have nq0x1 : ¬ w.heap.size = g1 := by omega
  have nq2x0 : ¬ g2 = w.heap.size := by omega
  have nq0x2 : ¬ w.heap.size = g2 := by omega
  have nq2x1 : ¬ g2 = g1 := by omega
  have nq1x2 : ¬ g1 = g2 := by omega
  clear hg1 hg2
  have lt_a := Ha_0.out.lt
  have r_a0 : v0.cell? ⟨w.heap.size, 0, none⟩ = some (.int .i64 i0) := Ha_0.out.cell 0
  have r_a1 : v0.cell? ⟨w.heap.size, 1, none⟩ = some (.int .i64 t0) := Ha_0.out.cell 1
  have r_a2 : v0.cell? ⟨w.heap.size, 2, none⟩ = some (.slice A n c) := Ha_0.out.cell 2
  have r_a3 : v0.cell? ⟨w.heap.size, 3, none⟩ = some (.slice B m d) := Ha_0.out.cell 3
  have r_a4 : v0.cell? ⟨w.heap.size, 4, none⟩ = some (.int .i64 l0) := Ha_0.out.cell 4
  have r_a5 : v0.cell? ⟨w.heap.size, 5, none⟩ = some (.int .i64 l1) := Ha_0.out.cell 5
  have r_a6 : v0.cell? ⟨w.heap.size, 6, none⟩ = some (.int .i64 l2) := Ha_0.out.cell 6
  have lt_b := Hb_0.out.lt
  have r_b0 : v0.cell? ⟨g1, 0, none⟩ = some (.int .i64 ex) := Hb_0.out.cell 0
  have r_b1 : v0.cell? ⟨g1, 1, none⟩ = some (.int .i64 et) := Hb_0.out.cell 1
  have r_b2 : v0.cell? ⟨g1, 2, none⟩ = some (.int .i64 ec) := Hb_0.out.cell 2
  have r_b3 : v0.cell? ⟨g1, 3, none⟩ = some (.int .i64 es) := Hb_0.out.cell 3
  have r_b4 : v0.cell? ⟨g1, 4, none⟩ = some (.int .i64 2) := Hb_0.out.cell 4
  have r_b5 : v0.cell? ⟨g1, 5, none⟩ = some (.int .i64 ea) := Hb_0.out.cell 5
  have r_b6 : v0.cell? ⟨g1, 6, none⟩ = some (.int .i64 eb) := Hb_0.out.cell 6
  have r_b7 : v0.cell? ⟨g1, 7, none⟩ = some (.int .i64 eg) := Hb_0.out.cell 7
  have r_b8 : v0.cell? ⟨g1, 8, none⟩ = some (.int .i64 eh) := Hb_0.out.cell 8
  have lt_r := Hr_0.out.lt
  have r_r0 : v0.cell? ⟨g2, 0, none⟩ = some (.int .i64 0) := Hr_0.out.cell 0
  have r_r1 : v0.cell? ⟨g2, 1, none⟩ = some (.int .i64 0) := Hr_0.out.cell 1
  have r_r2 : v0.cell? ⟨g2, 2, none⟩ = some (.slice none 0 0) := Hr_0.out.cell 2
  have r_r3 : v0.cell? ⟨g2, 3, none⟩ = some (.slice none 0 0) := Hr_0.out.cell 3
  have r_r4 : v0.cell? ⟨g2, 4, none⟩ = some (.int .i64 0) := Hr_0.out.cell 4
  have r_r5 : v0.cell? ⟨g2, 5, none⟩ = some (.int .i64 0) := Hr_0.out.cell 5
  have r_r6 : v0.cell? ⟨g2, 6, none⟩ = some (.int .i64 0) := Hr_0.out.cell 6
  have z_r0 := Hr_0.out.frozen 0
  have z_r1 := Hr_0.out.frozen 1
  have z_r2 := Hr_0.out.frozen 2
  have z_r3 := Hr_0.out.frozen 3
  have z_r4 := Hr_0.out.frozen 4
  have z_r5 := Hr_0.out.frozen 5
  have z_r6 := Hr_0.out.frozen 6
  have cc := specStateOk_any A n c B m d i0 t0 l0 l1 l2 pl ql v0 HP_0.out HQ_0.out hL.out hR.out hn hm
  rw [hS.out] at cc
  refine (cc).mono ?_
  rintro e v1 ⟨rfl, b1⟩
  have f1 := bthen f0 b1
  have z1 := b1.size
  have HP_1 := Lib.hid (HP_0.out.below b1)
  have HQ_1 := Lib.hid (HQ_0.out.below b1)
  have Ha_1 := Lib.hid (Ha_0.out.below b1)
  have Hb_1 := Lib.hid (Hb_0.out.below b1)
  have Hr_1 := Lib.hid (Hr_0.out.below b1)
  clear lt_a r_a0 r_a1 r_a2 r_a3 r_a4 r_a5 r_a6 lt_b r_b0 r_b1 r_b2 r_b3 r_b4 r_b5 r_b6 r_b7 r_b8 lt_r r_r0 r_r1 r_r2 r_r3 r_r4 r_r5 r_r6 z_r0 z_r1 z_r2 z_r3 z_r4 z_r5 z_r6
  clear HP_0 HQ_0 Ha_0 Hb_0 Hr_0
  clear cc
  have lt_a := Ha_1.out.lt
  have r_a0 : v1.cell? ⟨w.heap.size, 0, none⟩ = some (.int .i64 i0) := Ha_1.out.cell 0
  have r_a1 : v1.cell? ⟨w.heap.size, 1, none⟩ = some (.int .i64 t0) := Ha_1.out.cell 1
  have r_a2 : v1.cell? ⟨w.heap.size, 2, none⟩ = some (.slice A n c) := Ha_1.out.cell 2
  have r_a3 : v1.cell? ⟨w.heap.size, 3, none⟩ = some (.slice B m d) := Ha_1.out.cell 3
  have r_a4 : v1.cell? ⟨w.heap.size, 4, none⟩ = some (.int .i64 l0) := Ha_1.out.cell 4
  have r_a5 : v1.cell? ⟨w.heap.size, 5, none⟩ = some (.int .i64 l1) := Ha_1.out.cell 5
  have r_a6 : v1.cell? ⟨w.heap.size, 6, none⟩ = some (.int .i64 l2) := Ha_1.out.cell 6
  have lt_b := Hb_1.out.lt
  have r_b0 : v1.cell? ⟨g1, 0, none⟩ = some (.int .i64 ex) := Hb_1.out.cell 0
  have r_b1 : v1.cell? ⟨g1, 1, none⟩ = some (.int .i64 et) := Hb_1.out.cell 1
  have r_b2 : v1.cell? ⟨g1, 2, none⟩ = some (.int .i64 ec) := Hb_1.out.cell 2
  have r_b3 : v1.cell? ⟨g1, 3, none⟩ = some (.int .i64 es) := Hb_1.out.cell 3
  have r_b4 : v1.cell? ⟨g1, 4, none⟩ = some (.int .i64 2) := Hb_1.out.cell 4
  have r_b5 : v1.cell? ⟨g1, 5, none⟩ = some (.int .i64 ea) := Hb_1.out.cell 5
  have r_b6 : v1.cell? ⟨g1, 6, none⟩ = some (.int .i64 eb) := Hb_1.out.cell 6
  have r_b7 : v1.cell? ⟨g1, 7, none⟩ = some (.int .i64 eg) := Hb_1.out.cell 7
  have r_b8 : v1.cell? ⟨g1, 8, none⟩ = some (.int .i64 eh) := Hb_1.out.cell 8
  have lt_r := Hr_1.out.lt
  have r_r0 : v1.cell? ⟨g2, 0, none⟩ = some (.int .i64 0) := Hr_1.out.cell 0
  have r_r1 : v1.cell? ⟨g2, 1, none⟩ = some (.int .i64 0) := Hr_1.out.cell 1
  have r_r2 : v1.cell? ⟨g2, 2, none⟩ = some (.slice none 0 0) := Hr_1.out.cell 2
  have r_r3 : v1.cell? ⟨g2, 3, none⟩ = some (.slice none 0 0) := Hr_1.out.cell 3
  have r_r4 : v1.cell? ⟨g2, 4, none⟩ = some (.int .i64 0) := Hr_1.out.cell 4
  have r_r5 : v1.cell? ⟨g2, 5, none⟩ = some (.int .i64 0) := Hr_1.out.cell 5
  have r_r6 : v1.cell? ⟨g2, 6, none⟩ = some (.int .i64 0) := Hr_1.out.cell 6
  have z_r0 := Hr_1.out.frozen 0
  have z_r1 := Hr_1.out.frozen 1
  have z_r2 := Hr_1.out.frozen 2
  have z_r3 := Hr_1.out.frozen 3
  have z_r4 := Hr_1.out.frozen 4
  have z_r5 := Hr_1.out.frozen 5
  have z_r6 := Hr_1.out.frozen 6
  go_wp2_with fail
  refine (l17Copy_any A n c B m d i0 t0 l0 l1 l2 pl ql _ HP_1.out HQ_1.out hL.out hR.out (by omega) (by omega) HA.out HB.out).mono ?_
  rintro e v2 ⟨A5, c5, B5, d5, rfl, R5, R6, hap, b2⟩
  have HAP := Lib.hid hap
  have Lx := Lib.hid R5.lt
  have Ly := Lib.hid R6.lt
  clear hap
  have f2 := bthen f1 b2
  have z2 := b2.size
  have HP_2 := Lib.hid (HP_1.out.below b2)
  have HQ_2 := Lib.hid (HQ_1.out.below b2)
  have Ha_2 := Lib.hid (Ha_1.out.below b2)
  have Hb_2 := Lib.hid (Hb_1.out.below b2)
  have Hr_2 := Lib.hid (Hr_1.out.below b2)
  clear lt_a r_a0 r_a1 r_a2 r_a3 r_a4 r_a5 r_a6 lt_b r_b0 r_b1 r_b2 r_b3 r_b4 r_b5 r_b6 r_b7 r_b8 lt_r r_r0 r_r1 r_r2 r_r3 r_r4 r_r5 r_r6 z_r0 z_r1 z_r2 z_r3 z_r4 z_r5 z_r6
  clear HP_1 HQ_1 Ha_1 Hb_1 Hr_1
  have Hx_2 := Lib.hid R5
  clear R5
  have Hy_2 := Lib.hid R6
  clear R6
  have lt_a := Ha_2.out.lt
  have r_a0 : v2.cell? ⟨w.heap.size, 0, none⟩ = some (.int .i64 i0) := Ha_2.out.cell 0
  have r_a1 : v2.cell? ⟨w.heap.size, 1, none⟩ = some (.int .i64 t0) := Ha_2.out.cell 1
  have r_a2 : v2.cell? ⟨w.heap.size, 2, none⟩ = some (.slice A n c) := Ha_2.out.cell 2
  have r_a3 : v2.cell? ⟨w.heap.size, 3, none⟩ = some (.slice B m d) := Ha_2.out.cell 3
  have r_a4 : v2.cell? ⟨w.heap.size, 4, none⟩ = some (.int .i64 l0) := Ha_2.out.cell 4
  have r_a5 : v2.cell? ⟨w.heap.size, 5, none⟩ = some (.int .i64 l1) := Ha_2.out.cell 5
  have r_a6 : v2.cell? ⟨w.heap.size, 6, none⟩ = some (.int .i64 l2) := Ha_2.out.cell 6
  have lt_b := Hb_2.out.lt
  have r_b0 : v2.cell? ⟨g1, 0, none⟩ = some (.int .i64 ex) := Hb_2.out.cell 0
  have r_b1 : v2.cell? ⟨g1, 1, none⟩ = some (.int .i64 et) := Hb_2.out.cell 1
  have r_b2 : v2.cell? ⟨g1, 2, none⟩ = some (.int .i64 ec) := Hb_2.out.cell 2
  have r_b3 : v2.cell? ⟨g1, 3, none⟩ = some (.int .i64 es) := Hb_2.out.cell 3
  have r_b4 : v2.cell? ⟨g1, 4, none⟩ = some (.int .i64 2) := Hb_2.out.cell 4
  have r_b5 : v2.cell? ⟨g1, 5, none⟩ = some (.int .i64 ea) := Hb_2.out.cell 5
  have r_b6 : v2.cell? ⟨g1, 6, none⟩ = some (.int .i64 eb) := Hb_2.out.cell 6
  have r_b7 : v2.cell? ⟨g1, 7, none⟩ = some (.int .i64 eg) := Hb_2.out.cell 7
  have r_b8 : v2.cell? ⟨g1, 8, none⟩ = some (.int .i64 eh) := Hb_2.out.cell 8
  have lt_r := Hr_2.out.lt
  have r_r0 : v2.cell? ⟨g2, 0, none⟩ = some (.int .i64 0) := Hr_2.out.cell 0
  have r_r1 : v2.cell? ⟨g2, 1, none⟩ = some (.int .i64 0) := Hr_2.out.cell 1
  have r_r2 : v2.cell? ⟨g2, 2, none⟩ = some (.slice none 0 0) := Hr_2.out.cell 2
  have r_r3 : v2.cell? ⟨g2, 3, none⟩ = some (.slice none 0 0) := Hr_2.out.cell 3
  have r_r4 : v2.cell? ⟨g2, 4, none⟩ = some (.int .i64 0) := Hr_2.out.cell 4
  have r_r5 : v2.cell? ⟨g2, 5, none⟩ = some (.int .i64 0) := Hr_2.out.cell 5
  have r_r6 : v2.cell? ⟨g2, 6, none⟩ = some (.int .i64 0) := Hr_2.out.cell 6
  have z_r0 := Hr_2.out.frozen 0
  have z_r1 := Hr_2.out.frozen 1
  have z_r2 := Hr_2.out.frozen 2
  have z_r3 := Hr_2.out.frozen 3
  have z_r4 := Hr_2.out.frozen 4
  have z_r5 := Hr_2.out.frozen 5
  have z_r6 := Hr_2.out.frozen 6
  go_wp2_with fail
  refine calls_named ?_
  rintro v3 hv3
  have f3 : Below w.heap.size w v3 := by rw [hv3]; (repeat' (first | (with_reducible exact Below.refl _ _) | (with_reducible assumption) | (with_reducible refine Below.alloc ?_ ?_ _) | (with_reducible refine Below.drew ?_) | (with_reducible refine Below.setCell ?_ ?_ _) | (with_reducible refine bstep (by assumption) ?_ ?_) | (with_reducible exact Nat.le_refl _) | omega | (simp [*]; done) | (simp [*]; omega)))
  have z3 : v2.heap.size + 1 ≤ v3.heap.size := by rw [hv3]; simp [size_set]
  have HP_3 : Hid (Sl v3 2 A n (PR pl)) := by rw [hv3]; exact (HP_2.out).alloc _
  have HQ_3 : Hid (Sl v3 5 B m (JB ql)) := by rw [hv3]; exact (HQ_2.out).alloc _
  have Ha_3 : Hid (Blk v3 w.heap.size 37 #[.int .i64 i0, .int .i64 t0, .slice A n c, .slice B m d, .int .i64 l0, .int .i64 l1, .int .i64 l2]) := by rw [hv3]; exact (Ha_2.out).alloc _
  have Hb_3 : Hid (Blk v3 g1 43 #[.int .i64 ex, .int .i64 et, .int .i64 ec, .int .i64 es, .int .i64 2, .int .i64 ea, .int .i64 eb, .int .i64 eg, .int .i64 eh]) := by rw [hv3]; exact (Hb_2.out).alloc _
  have Hr_3 : Hid (Blk v3 g2 37 #[.int .i64 0, .int .i64 0, .slice none 0 0, .slice none 0 0, .int .i64 0, .int .i64 0, .int .i64 0]) := by rw [hv3]; exact (Hr_2.out).alloc _
  have Hx_3 : Hid (Row v3 v1.heap.size 106 2 A5 n c5 (PR pl)) := by rw [hv3]; exact (Hx_2.out).alloc _
  have Hy_3 : Hid (Row v3 v1.heap.size 71 5 B5 m d5 (JB ql)) := by rw [hv3]; exact (Hy_2.out).alloc _
  have Hz_3 : Hid (Blk v3 v2.heap.size 37 #[.int .i64 i0, .int .i64 t0, .slice A5 n c5, .slice B5 m d5, .int .i64 l0, .int .i64 l1, .int .i64 l2]) := by rw [hv3]; exact (Blk.new_at _ _ _ _ (by simp [size_set]))
  clear lt_a r_a0 r_a1 r_a2 r_a3 r_a4 r_a5 r_a6 lt_b r_b0 r_b1 r_b2 r_b3 r_b4 r_b5 r_b6 r_b7 r_b8 lt_r r_r0 r_r1 r_r2 r_r3 r_r4 r_r5 r_r6 z_r0 z_r1 z_r2 z_r3 z_r4 z_r5 z_r6
  clear hv3 HP_2 HQ_2 Ha_2 Hb_2 Hr_2 Hx_2 Hy_2
  have lt_a := Ha_3.out.lt
  have r_a0 : v3.cell? ⟨w.heap.size, 0, none⟩ = some (.int .i64 i0) := Ha_3.out.cell 0
  have r_a1 : v3.cell? ⟨w.heap.size, 1, none⟩ = some (.int .i64 t0) := Ha_3.out.cell 1
  have r_a2 : v3.cell? ⟨w.heap.size, 2, none⟩ = some (.slice A n c) := Ha_3.out.cell 2
  have r_a3 : v3.cell? ⟨w.heap.size, 3, none⟩ = some (.slice B m d) := Ha_3.out.cell 3
  have r_a4 : v3.cell? ⟨w.heap.size, 4, none⟩ = some (.int .i64 l0) := Ha_3.out.cell 4
  have r_a5 : v3.cell? ⟨w.heap.size, 5, none⟩ = some (.int .i64 l1) := Ha_3.out.cell 5
  have r_a6 : v3.cell? ⟨w.heap.size, 6, none⟩ = some (.int .i64 l2) := Ha_3.out.cell 6
  have lt_b := Hb_3.out.lt
  have r_b0 : v3.cell? ⟨g1, 0, none⟩ = some (.int .i64 ex) := Hb_3.out.cell 0
  have r_b1 : v3.cell? ⟨g1, 1, none⟩ = some (.int .i64 et) := Hb_3.out.cell 1
  have r_b2 : v3.cell? ⟨g1, 2, none⟩ = some (.int .i64 ec) := Hb_3.out.cell 2
  have r_b3 : v3.cell? ⟨g1, 3, none⟩ = some (.int .i64 es) := Hb_3.out.cell 3
  have r_b4 : v3.cell? ⟨g1, 4, none⟩ = some (.int .i64 2) := Hb_3.out.cell 4
  have r_b5 : v3.cell? ⟨g1, 5, none⟩ = some (.int .i64 ea) := Hb_3.out.cell 5
  have r_b6 : v3.cell? ⟨g1, 6, none⟩ = some (.int .i64 eb) := Hb_3.out.cell 6
  have r_b7 : v3.cell? ⟨g1, 7, none⟩ = some (.int .i64 eg) := Hb_3.out.cell 7
  have r_b8 : v3.cell? ⟨g1, 8, none⟩ = some (.int .i64 eh) := Hb_3.out.cell 8
  have lt_r := Hr_3.out.lt
  have r_r0 : v3.cell? ⟨g2, 0, none⟩ = some (.int .i64 0) := Hr_3.out.cell 0
  have r_r1 : v3.cell? ⟨g2, 1, none⟩ = some (.int .i64 0) := Hr_3.out.cell 1
  have r_r2 : v3.cell? ⟨g2, 2, none⟩ = some (.slice none 0 0) := Hr_3.out.cell 2
  have r_r3 : v3.cell? ⟨g2, 3, none⟩ = some (.slice none 0 0) := Hr_3.out.cell 3
  have r_r4 : v3.cell? ⟨g2, 4, none⟩ = some (.int .i64 0) := Hr_3.out.cell 4
  have r_r5 : v3.cell? ⟨g2, 5, none⟩ = some (.int .i64 0) := Hr_3.out.cell 5
  have r_r6 : v3.cell? ⟨g2, 6, none⟩ = some (.int .i64 0) := Hr_3.out.cell 6
  have z_r0 := Hr_3.out.frozen 0
  have z_r1 := Hr_3.out.frozen 1
  have z_r2 := Hr_3.out.frozen 2
  have z_r3 := Hr_3.out.frozen 3
  have z_r4 := Hr_3.out.frozen 4
  have z_r5 := Hr_3.out.frozen 5
  have z_r6 := Hr_3.out.frozen 6
  have lt_z := Hz_3.out.lt
  have r_z0 : v3.cell? ⟨v2.heap.size, 0, none⟩ = some (.int .i64 i0) := Hz_3.out.cell 0
  have r_z1 : v3.cell? ⟨v2.heap.size, 1, none⟩ = some (.int .i64 t0) := Hz_3.out.cell 1
  have r_z2 : v3.cell? ⟨v2.heap.size, 2, none⟩ = some (.slice A5 n c5) := Hz_3.out.cell 2
  have r_z3 : v3.cell? ⟨v2.heap.size, 3, none⟩ = some (.slice B5 m d5) := Hz_3.out.cell 3
  have r_z4 : v3.cell? ⟨v2.heap.size, 4, none⟩ = some (.int .i64 l0) := Hz_3.out.cell 4
  have r_z5 : v3.cell? ⟨v2.heap.size, 5, none⟩ = some (.int .i64 l1) := Hz_3.out.cell 5
  have r_z6 : v3.cell? ⟨v2.heap.size, 6, none⟩ = some (.int .i64 l2) := Hz_3.out.cell 6
  have z_z0 := Hz_3.out.frozen 0
  have z_z1 := Hz_3.out.frozen 1
  have z_z2 := Hz_3.out.frozen 2
  have z_z3 := Hz_3.out.frozen 3
  have z_z4 := Hz_3.out.frozen 4
  have z_z5 := Hz_3.out.frozen 5
  have z_z6 := Hz_3.out.frozen 6
  have cc := specEffectOf_any A n c B m d i0 t0 l0 l1 l2 pl ql ex et ec es 2 ea eb eg eh v3 HP_3.out HQ_3.out hL.out hR.out hn hm HA.out HB.out _ hx.out
  refine (cc).mono ?_
  rintro e v4 ⟨rfl, b4⟩
  have f4 := bthen f3 b4
  have z4 := b4.size
  have HP_4 := Lib.hid (HP_3.out.below b4)
  have HQ_4 := Lib.hid (HQ_3.out.below b4)
  have Ha_4 := Lib.hid (Ha_3.out.below b4)
  have Hb_4 := Lib.hid (Hb_3.out.below b4)
  have Hr_4 := Lib.hid (Hr_3.out.below b4)
  have Hx_4 := Lib.hid (Hx_3.out.below b4)
  have Hy_4 := Lib.hid (Hy_3.out.below b4)
  have Hz_4 := Lib.hid (Hz_3.out.below b4)
  clear lt_a r_a0 r_a1 r_a2 r_a3 r_a4 r_a5 r_a6 lt_b r_b0 r_b1 r_b2 r_b3 r_b4 r_b5 r_b6 r_b7 r_b8 lt_r r_r0 r_r1 r_r2 r_r3 r_r4 r_r5 r_r6 z_r0 z_r1 z_r2 z_r3 z_r4 z_r5 z_r6 lt_z r_z0 r_z1 r_z2 r_z3 r_z4 r_z5 r_z6 z_z0 z_z1 z_z2 z_z3 z_z4 z_z5 z_z6
  clear HP_3 HQ_3 Ha_3 Hb_3 Hr_3 Hx_3 Hy_3 Hz_3
  clear cc
  have lt_a := Ha_4.out.lt
  have r_a0 : v4.cell? ⟨w.heap.size, 0, none⟩ = some (.int .i64 i0) := Ha_4.out.cell 0
  have r_a1 : v4.cell? ⟨w.heap.size, 1, none⟩ = some (.int .i64 t0) := Ha_4.out.cell 1
  have r_a2 : v4.cell? ⟨w.heap.size, 2, none⟩ = some (.slice A n c) := Ha_4.out.cell 2
  have r_a3 : v4.cell? ⟨w.heap.size, 3, none⟩ = some (.slice B m d) := Ha_4.out.cell 3
  have r_a4 : v4.cell? ⟨w.heap.size, 4, none⟩ = some (.int .i64 l0) := Ha_4.out.cell 4
  have r_a5 : v4.cell? ⟨w.heap.size, 5, none⟩ = some (.int .i64 l1) := Ha_4.out.cell 5
  have r_a6 : v4.cell? ⟨w.heap.size, 6, none⟩ = some (.int .i64 l2) := Ha_4.out.cell 6
  have lt_b := Hb_4.out.lt
  have r_b0 : v4.cell? ⟨g1, 0, none⟩ = some (.int .i64 ex) := Hb_4.out.cell 0
  have r_b1 : v4.cell? ⟨g1, 1, none⟩ = some (.int .i64 et) := Hb_4.out.cell 1
  have r_b2 : v4.cell? ⟨g1, 2, none⟩ = some (.int .i64 ec) := Hb_4.out.cell 2
  have r_b3 : v4.cell? ⟨g1, 3, none⟩ = some (.int .i64 es) := Hb_4.out.cell 3
  have r_b4 : v4.cell? ⟨g1, 4, none⟩ = some (.int .i64 2) := Hb_4.out.cell 4
  have r_b5 : v4.cell? ⟨g1, 5, none⟩ = some (.int .i64 ea) := Hb_4.out.cell 5
  have r_b6 : v4.cell? ⟨g1, 6, none⟩ = some (.int .i64 eb) := Hb_4.out.cell 6
  have r_b7 : v4.cell? ⟨g1, 7, none⟩ = some (.int .i64 eg) := Hb_4.out.cell 7
  have r_b8 : v4.cell? ⟨g1, 8, none⟩ = some (.int .i64 eh) := Hb_4.out.cell 8
  have lt_r := Hr_4.out.lt
  have r_r0 : v4.cell? ⟨g2, 0, none⟩ = some (.int .i64 0) := Hr_4.out.cell 0
  have r_r1 : v4.cell? ⟨g2, 1, none⟩ = some (.int .i64 0) := Hr_4.out.cell 1
  have r_r2 : v4.cell? ⟨g2, 2, none⟩ = some (.slice none 0 0) := Hr_4.out.cell 2
  have r_r3 : v4.cell? ⟨g2, 3, none⟩ = some (.slice none 0 0) := Hr_4.out.cell 3
  have r_r4 : v4.cell? ⟨g2, 4, none⟩ = some (.int .i64 0) := Hr_4.out.cell 4
  have r_r5 : v4.cell? ⟨g2, 5, none⟩ = some (.int .i64 0) := Hr_4.out.cell 5
  have r_r6 : v4.cell? ⟨g2, 6, none⟩ = some (.int .i64 0) := Hr_4.out.cell 6
  have z_r0 := Hr_4.out.frozen 0
  have z_r1 := Hr_4.out.frozen 1
  have z_r2 := Hr_4.out.frozen 2
  have z_r3 := Hr_4.out.frozen 3
  have z_r4 := Hr_4.out.frozen 4
  have z_r5 := Hr_4.out.frozen 5
  have z_r6 := Hr_4.out.frozen 6
  have lt_z := Hz_4.out.lt
  have r_z0 : v4.cell? ⟨v2.heap.size, 0, none⟩ = some (.int .i64 i0) := Hz_4.out.cell 0
  have r_z1 : v4.cell? ⟨v2.heap.size, 1, none⟩ = some (.int .i64 t0) := Hz_4.out.cell 1
  have r_z2 : v4.cell? ⟨v2.heap.size, 2, none⟩ = some (.slice A5 n c5) := Hz_4.out.cell 2
  have r_z3 : v4.cell? ⟨v2.heap.size, 3, none⟩ = some (.slice B5 m d5) := Hz_4.out.cell 3
  have r_z4 : v4.cell? ⟨v2.heap.size, 4, none⟩ = some (.int .i64 l0) := Hz_4.out.cell 4
  have r_z5 : v4.cell? ⟨v2.heap.size, 5, none⟩ = some (.int .i64 l1) := Hz_4.out.cell 5
  have r_z6 : v4.cell? ⟨v2.heap.size, 6, none⟩ = some (.int .i64 l2) := Hz_4.out.cell 6
  have z_z0 := Hz_4.out.frozen 0
  have z_z1 := Hz_4.out.frozen 1
  have z_z2 := Hz_4.out.frozen 2
  have z_z3 := Hz_4.out.frozen 3
  have z_z4 := Hz_4.out.frozen 4
  have z_z5 := Hz_4.out.frozen 5
  have z_z6 := Hz_4.out.frozen 6
  go_wp2_with fail
  refine calls_named ?_
  rintro v5 hv5
  have f5 : Below w.heap.size w v5 := by rw [hv5]; (repeat' (first | (with_reducible exact Below.refl _ _) | (with_reducible assumption) | (with_reducible refine Below.alloc ?_ ?_ _) | (with_reducible refine Below.drew ?_) | (with_reducible refine Below.setCell ?_ ?_ _) | (with_reducible refine bstep (by assumption) ?_ ?_) | (with_reducible exact Nat.le_refl _) | omega | (simp [*]; done) | (simp [*]; omega)))
  have z5 : v4.heap.size + 0 ≤ v5.heap.size := by rw [hv5]; simp [size_set]
  have HP_5 : Hid (Sl v5 2 A n (PR pl)) := by rw [hv5]; exact ((HP_4.out).far (p := ⟨v2.heap.size, 0, none⟩) (fun hn a ha => by have := HP_lt.out hn a ha; show a.block ≠ v2.heap.size; omega) _).far (p := ⟨v2.heap.size, 1, none⟩) (fun hn a ha => by have := HP_lt.out hn a ha; show a.block ≠ v2.heap.size; omega) _
  have HQ_5 : Hid (Sl v5 5 B m (JB ql)) := by rw [hv5]; exact ((HQ_4.out).far (p := ⟨v2.heap.size, 0, none⟩) (fun hn a ha => by have := HQ_lt.out hn a ha; show a.block ≠ v2.heap.size; omega) _).far (p := ⟨v2.heap.size, 1, none⟩) (fun hn a ha => by have := HQ_lt.out hn a ha; show a.block ≠ v2.heap.size; omega) _
  have Ha_5 : Hid (Blk v5 w.heap.size 37 #[.int .i64 i0, .int .i64 t0, .slice A n c, .slice B m d, .int .i64 l0, .int .i64 l1, .int .i64 l2]) := by rw [hv5]; exact ((Ha_4.out).far (p := ⟨v2.heap.size, 0, none⟩) (show w.heap.size ≠ v2.heap.size by omega) _).far (p := ⟨v2.heap.size, 1, none⟩) (show w.heap.size ≠ v2.heap.size by omega) _
  have Hb_5 : Hid (Blk v5 g1 43 #[.int .i64 ex, .int .i64 et, .int .i64 ec, .int .i64 es, .int .i64 2, .int .i64 ea, .int .i64 eb, .int .i64 eg, .int .i64 eh]) := by rw [hv5]; exact ((Hb_4.out).far (p := ⟨v2.heap.size, 0, none⟩) (show g1 ≠ v2.heap.size by omega) _).far (p := ⟨v2.heap.size, 1, none⟩) (show g1 ≠ v2.heap.size by omega) _
  have Hr_5 : Hid (Blk v5 g2 37 #[.int .i64 0, .int .i64 0, .slice none 0 0, .slice none 0 0, .int .i64 0, .int .i64 0, .int .i64 0]) := by rw [hv5]; exact ((Hr_4.out).far (p := ⟨v2.heap.size, 0, none⟩) (show g2 ≠ v2.heap.size by omega) _).far (p := ⟨v2.heap.size, 1, none⟩) (show g2 ≠ v2.heap.size by omega) _
  have Hx_5 : Hid (Row v5 v1.heap.size 106 2 A5 n c5 (PR pl)) := by rw [hv5]; exact ((Hx_4.out).far (p := ⟨v2.heap.size, 0, none⟩) (fun a ha => by have := Lx.out a ha; show a.block ≠ v2.heap.size; omega) _).far (p := ⟨v2.heap.size, 1, none⟩) (fun a ha => by have := Lx.out a ha; show a.block ≠ v2.heap.size; omega) _
  have Hy_5 : Hid (Row v5 v1.heap.size 71 5 B5 m d5 (JB ql)) := by rw [hv5]; exact ((Hy_4.out).far (p := ⟨v2.heap.size, 0, none⟩) (fun a ha => by have := Ly.out a ha; show a.block ≠ v2.heap.size; omega) _).far (p := ⟨v2.heap.size, 1, none⟩) (fun a ha => by have := Ly.out a ha; show a.block ≠ v2.heap.size; omega) _
  have Hz_5 : Hid (Blk v5 v2.heap.size 37 #[.int .i64 ex, .int .i64 et, .slice A5 n c5, .slice B5 m d5, .int .i64 l0, .int .i64 l1, .int .i64 l2]) := by rw [hv5]; exact ((Hz_4.out).set_ 0 _).set_ 1 _
  clear lt_a r_a0 r_a1 r_a2 r_a3 r_a4 r_a5 r_a6 lt_b r_b0 r_b1 r_b2 r_b3 r_b4 r_b5 r_b6 r_b7 r_b8 lt_r r_r0 r_r1 r_r2 r_r3 r_r4 r_r5 r_r6 z_r0 z_r1 z_r2 z_r3 z_r4 z_r5 z_r6 lt_z r_z0 r_z1 r_z2 r_z3 r_z4 r_z5 r_z6 z_z0 z_z1 z_z2 z_z3 z_z4 z_z5 z_z6
  clear hv5 HP_4 HQ_4 Ha_4 Hb_4 Hr_4 Hx_4 Hy_4 Hz_4
  have lt_a := Ha_5.out.lt
  have r_a0 : v5.cell? ⟨w.heap.size, 0, none⟩ = some (.int .i64 i0) := Ha_5.out.cell 0
  have r_a1 : v5.cell? ⟨w.heap.size, 1, none⟩ = some (.int .i64 t0) := Ha_5.out.cell 1
  have r_a2 : v5.cell? ⟨w.heap.size, 2, none⟩ = some (.slice A n c) := Ha_5.out.cell 2
  have r_a3 : v5.cell? ⟨w.heap.size, 3, none⟩ = some (.slice B m d) := Ha_5.out.cell 3
  have r_a4 : v5.cell? ⟨w.heap.size, 4, none⟩ = some (.int .i64 l0) := Ha_5.out.cell 4
  have r_a5 : v5.cell? ⟨w.heap.size, 5, none⟩ = some (.int .i64 l1) := Ha_5.out.cell 5
  have r_a6 : v5.cell? ⟨w.heap.size, 6, none⟩ = some (.int .i64 l2) := Ha_5.out.cell 6
  have lt_b := Hb_5.out.lt
  have r_b0 : v5.cell? ⟨g1, 0, none⟩ = some (.int .i64 ex) := Hb_5.out.cell 0
  have r_b1 : v5.cell? ⟨g1, 1, none⟩ = some (.int .i64 et) := Hb_5.out.cell 1
  have r_b2 : v5.cell? ⟨g1, 2, none⟩ = some (.int .i64 ec) := Hb_5.out.cell 2
  have r_b3 : v5.cell? ⟨g1, 3, none⟩ = some (.int .i64 es) := Hb_5.out.cell 3
  have r_b4 : v5.cell? ⟨g1, 4, none⟩ = some (.int .i64 2) := Hb_5.out.cell 4
  have r_b5 : v5.cell? ⟨g1, 5, none⟩ = some (.int .i64 ea) := Hb_5.out.cell 5
  have r_b6 : v5.cell? ⟨g1, 6, none⟩ = some (.int .i64 eb) := Hb_5.out.cell 6
  have r_b7 : v5.cell? ⟨g1, 7, none⟩ = some (.int .i64 eg) := Hb_5.out.cell 7
  have r_b8 : v5.cell? ⟨g1, 8, none⟩ = some (.int .i64 eh) := Hb_5.out.cell 8
  have lt_r := Hr_5.out.lt
  have r_r0 : v5.cell? ⟨g2, 0, none⟩ = some (.int .i64 0) := Hr_5.out.cell 0
  have r_r1 : v5.cell? ⟨g2, 1, none⟩ = some (.int .i64 0) := Hr_5.out.cell 1
  have r_r2 : v5.cell? ⟨g2, 2, none⟩ = some (.slice none 0 0) := Hr_5.out.cell 2
  have r_r3 : v5.cell? ⟨g2, 3, none⟩ = some (.slice none 0 0) := Hr_5.out.cell 3
  have r_r4 : v5.cell? ⟨g2, 4, none⟩ = some (.int .i64 0) := Hr_5.out.cell 4
  have r_r5 : v5.cell? ⟨g2, 5, none⟩ = some (.int .i64 0) := Hr_5.out.cell 5
  have r_r6 : v5.cell? ⟨g2, 6, none⟩ = some (.int .i64 0) := Hr_5.out.cell 6
  have z_r0 := Hr_5.out.frozen 0
  have z_r1 := Hr_5.out.frozen 1
  have z_r2 := Hr_5.out.frozen 2
  have z_r3 := Hr_5.out.frozen 3
  have z_r4 := Hr_5.out.frozen 4
  have z_r5 := Hr_5.out.frozen 5
  have z_r6 := Hr_5.out.frozen 6
  have lt_z := Hz_5.out.lt
  have r_z0 : v5.cell? ⟨v2.heap.size, 0, none⟩ = some (.int .i64 ex) := Hz_5.out.cell 0
  have r_z1 : v5.cell? ⟨v2.heap.size, 1, none⟩ = some (.int .i64 et) := Hz_5.out.cell 1
  have r_z2 : v5.cell? ⟨v2.heap.size, 2, none⟩ = some (.slice A5 n c5) := Hz_5.out.cell 2
  have r_z3 : v5.cell? ⟨v2.heap.size, 3, none⟩ = some (.slice B5 m d5) := Hz_5.out.cell 3
  have r_z4 : v5.cell? ⟨v2.heap.size, 4, none⟩ = some (.int .i64 l0) := Hz_5.out.cell 4
  have r_z5 : v5.cell? ⟨v2.heap.size, 5, none⟩ = some (.int .i64 l1) := Hz_5.out.cell 5
  have r_z6 : v5.cell? ⟨v2.heap.size, 6, none⟩ = some (.int .i64 l2) := Hz_5.out.cell 6
  have z_z0 := Hz_5.out.frozen 0
  have z_z1 := Hz_5.out.frozen 1
  have z_z2 := Hz_5.out.frozen 2
  have z_z3 := Hz_5.out.frozen 3
  have z_z4 := Hz_5.out.frozen 4
  have z_z5 := Hz_5.out.frozen 5
  have z_z6 := Hz_5.out.frozen 6
  have cc := specCutOutR_any A n c pl ea v5 HP_5.out hL.out hn
  rw [hv.out] at cc
  replace cc := cc.mono (fun _ _ h => Lib.hid h)
  have HX : ∀ e w1, RetRowB v5 106 2 (p2, ok).1.length (PR (p2, ok).1) (p2, ok).2 e w1 → RetRowB v5 106 2 k2 (PR p2) ok e w1 := fun e w1 h => by
    have := hk2.out
    subst this
    exact h
  refine cc.mono ?_
  rintro e v6 hx_
  obtain ⟨A6, c6, rfl, R7, b6⟩ := HX _ _ hx_.out
  clear HX hx_ cc
  have Mu := Lib.hid (show v2.heap.size < v5.heap.size from by have := Hz_5.out.lt; exact this)
  have f6 := bthen f5 b6
  have z6 := b6.size
  have HP_6 := Lib.hid (HP_5.out.below b6)
  have HQ_6 := Lib.hid (HQ_5.out.below b6)
  have Ha_6 := Lib.hid (Ha_5.out.below b6)
  have Hb_6 := Lib.hid (Hb_5.out.below b6)
  have Hr_6 := Lib.hid (Hr_5.out.below b6)
  have Hx_6 := Lib.hid (Hx_5.out.below b6)
  have Hy_6 := Lib.hid (Hy_5.out.below b6)
  have Hz_6 := Lib.hid (Hz_5.out.below b6)
  clear lt_a r_a0 r_a1 r_a2 r_a3 r_a4 r_a5 r_a6 lt_b r_b0 r_b1 r_b2 r_b3 r_b4 r_b5 r_b6 r_b7 r_b8 lt_r r_r0 r_r1 r_r2 r_r3 r_r4 r_r5 r_r6 z_r0 z_r1 z_r2 z_r3 z_r4 z_r5 z_r6 lt_z r_z0 r_z1 r_z2 r_z3 r_z4 r_z5 r_z6 z_z0 z_z1 z_z2 z_z3 z_z4 z_z5 z_z6
  clear HP_5 HQ_5 Ha_5 Hb_5 Hr_5 Hx_5 Hy_5 Hz_5
  have Hu_6 := Lib.hid R7
  clear R7
  have lt_a := Ha_6.out.lt
  have r_a0 : v6.cell? ⟨w.heap.size, 0, none⟩ = some (.int .i64 i0) := Ha_6.out.cell 0
  have r_a1 : v6.cell? ⟨w.heap.size, 1, none⟩ = some (.int .i64 t0) := Ha_6.out.cell 1
  have r_a2 : v6.cell? ⟨w.heap.size, 2, none⟩ = some (.slice A n c) := Ha_6.out.cell 2
  have r_a3 : v6.cell? ⟨w.heap.size, 3, none⟩ = some (.slice B m d) := Ha_6.out.cell 3
  have r_a4 : v6.cell? ⟨w.heap.size, 4, none⟩ = some (.int .i64 l0) := Ha_6.out.cell 4
  have r_a5 : v6.cell? ⟨w.heap.size, 5, none⟩ = some (.int .i64 l1) := Ha_6.out.cell 5
  have r_a6 : v6.cell? ⟨w.heap.size, 6, none⟩ = some (.int .i64 l2) := Ha_6.out.cell 6
  have lt_b := Hb_6.out.lt
  have r_b0 : v6.cell? ⟨g1, 0, none⟩ = some (.int .i64 ex) := Hb_6.out.cell 0
  have r_b1 : v6.cell? ⟨g1, 1, none⟩ = some (.int .i64 et) := Hb_6.out.cell 1
  have r_b2 : v6.cell? ⟨g1, 2, none⟩ = some (.int .i64 ec) := Hb_6.out.cell 2
  have r_b3 : v6.cell? ⟨g1, 3, none⟩ = some (.int .i64 es) := Hb_6.out.cell 3
  have r_b4 : v6.cell? ⟨g1, 4, none⟩ = some (.int .i64 2) := Hb_6.out.cell 4
  have r_b5 : v6.cell? ⟨g1, 5, none⟩ = some (.int .i64 ea) := Hb_6.out.cell 5
  have r_b6 : v6.cell? ⟨g1, 6, none⟩ = some (.int .i64 eb) := Hb_6.out.cell 6
  have r_b7 : v6.cell? ⟨g1, 7, none⟩ = some (.int .i64 eg) := Hb_6.out.cell 7
  have r_b8 : v6.cell? ⟨g1, 8, none⟩ = some (.int .i64 eh) := Hb_6.out.cell 8
  have lt_r := Hr_6.out.lt
  have r_r0 : v6.cell? ⟨g2, 0, none⟩ = some (.int .i64 0) := Hr_6.out.cell 0
  have r_r1 : v6.cell? ⟨g2, 1, none⟩ = some (.int .i64 0) := Hr_6.out.cell 1
  have r_r2 : v6.cell? ⟨g2, 2, none⟩ = some (.slice none 0 0) := Hr_6.out.cell 2
  have r_r3 : v6.cell? ⟨g2, 3, none⟩ = some (.slice none 0 0) := Hr_6.out.cell 3
  have r_r4 : v6.cell? ⟨g2, 4, none⟩ = some (.int .i64 0) := Hr_6.out.cell 4
  have r_r5 : v6.cell? ⟨g2, 5, none⟩ = some (.int .i64 0) := Hr_6.out.cell 5
  have r_r6 : v6.cell? ⟨g2, 6, none⟩ = some (.int .i64 0) := Hr_6.out.cell 6
  have z_r0 := Hr_6.out.frozen 0
  have z_r1 := Hr_6.out.frozen 1
  have z_r2 := Hr_6.out.frozen 2
  have z_r3 := Hr_6.out.frozen 3
  have z_r4 := Hr_6.out.frozen 4
  have z_r5 := Hr_6.out.frozen 5
  have z_r6 := Hr_6.out.frozen 6
  have lt_z := Hz_6.out.lt
  have r_z0 : v6.cell? ⟨v2.heap.size, 0, none⟩ = some (.int .i64 ex) := Hz_6.out.cell 0
  have r_z1 : v6.cell? ⟨v2.heap.size, 1, none⟩ = some (.int .i64 et) := Hz_6.out.cell 1
  have r_z2 : v6.cell? ⟨v2.heap.size, 2, none⟩ = some (.slice A5 n c5) := Hz_6.out.cell 2
  have r_z3 : v6.cell? ⟨v2.heap.size, 3, none⟩ = some (.slice B5 m d5) := Hz_6.out.cell 3
  have r_z4 : v6.cell? ⟨v2.heap.size, 4, none⟩ = some (.int .i64 l0) := Hz_6.out.cell 4
  have r_z5 : v6.cell? ⟨v2.heap.size, 5, none⟩ = some (.int .i64 l1) := Hz_6.out.cell 5
  have r_z6 : v6.cell? ⟨v2.heap.size, 6, none⟩ = some (.int .i64 l2) := Hz_6.out.cell 6
  have z_z0 := Hz_6.out.frozen 0
  have z_z1 := Hz_6.out.frozen 1
  have z_z2 := Hz_6.out.frozen 2
  have z_z3 := Hz_6.out.frozen 3
  have z_z4 := Hz_6.out.frozen 4
  have z_z5 := Hz_6.out.frozen 5
  have z_z6 := Hz_6.out.frozen 6
  have hap2 : ∀ a b, A6 = some a → B5 = some b → a.block ≠ b.block := fun a b ha hb => by
    have h1 := Ly.out b hb
    have h2 := Hu_6.out.ge a ha
    omega
  have HAP2 := Lib.hid hap2
  clear hap2
  go_wp21
  refine bodyPost_ret (v := .tuple #[.agg #[.int .i64 ex, .int .i64 et, .slice A6 k2 c6, .slice B5 m d5, .int .i64 l0, .int .i64 l1, .int .i64 l2], .bool true]) (by simp [results, Tryz.results7, go_sem, *]) rfl ?_
  have nu : ∀ a, A6 = some a → a.block ≠ g2 := fun a ha => by have := Hu_6.out.ge a ha; omega
  have nzu : ∀ a, A6 = some a → a.block ≠ v2.heap.size := fun a ha => by have := Hu_6.out.ge a ha; have h9 := Mu.out; omega
  have ny : ∀ a, B5 = some a → a.block ≠ g2 := fun a ha => by have := Hy_6.out.ge a ha; omega
  have nzy : ∀ a, B5 = some a → a.block ≠ v2.heap.size := fun a ha => by have := Ly.out a ha; omega
  exact RetStateV.mk hk2.out hR.out (row_far7 (((Hu_6.out).far (p := ⟨v2.heap.size, 2, none⟩) nzu _).mono (by omega)) nu _ _ _ _ _ _ _) (row_far7 (((Hy_6.out).far (p := ⟨v2.heap.size, 2, none⟩) nzy _).mono (by omega)) ny _ _ _ _ _ _ _) HAP2.out (by (repeat' (first | (with_reducible exact Below.refl _ _) | (with_reducible assumption) | (with_reducible refine Below.alloc ?_ ?_ _) | (with_reducible refine Below.drew ?_) | (with_reducible refine Below.setCell ?_ ?_ _) | (with_reducible refine bstep (by assumption) ?_ ?_) | (with_reducible exact Nat.le_refl _) | omega | (simp [*]; done) | (simp [*]; omega))))
set_option maxRecDepth 100000 in
set_option maxHeartbeats 4000000 in
theorem specApp_3 (A : Option Addr) (n c : Nat) (B : Option Addr) (m d : Nat) (i0 t0 l0 l1 l2 : Int) (pl : List Pr) (ql : List Jb) (ex et ec es ea eb eg eh : Int) (w : World) (hP : Sl w 2 A n (PR pl)) (hQ : Sl w 5 B m (JB ql)) (hl : pl.length = n) (hr : ql.length = m) (hn : n ≤ maxLen) (hm : m ≤ maxLen) (hA : A = none → n = 0 ∧ c = 0) (hB : B = none → m = 0 ∧ d = 0) (hS : Hid (stateB i0 t0 l0 l1 l2 pl ql = true)) (hn10 : n ≤ 10) (hm8 : m ≤ 8) (hx : Hid (effI i0 t0 l0 l1 l2 pl ql ex et ec es 3 ea eb eg eh = 3)) (q2 : List Jb) (ok : Bool) (k2 : Nat) (hv : Hid (addR ql ⟨ea, eb, eg, eh, 0⟩ = (q2, ok))) (hk2 : Hid (q2.length = k2)) :
    Calls Tryz.prog 7 #[.agg #[.int .i64 i0, .int .i64 t0, .slice A n c, .slice B m d, .int .i64 l0, .int .i64 l1, .int .i64 l2], .agg #[.int .i64 ex, .int .i64 et, .int .i64 ec, .int .i64 es, .int .i64 3, .int .i64 ea, .int .i64 eb, .int .i64 eg, .int .i64 eh]] w (RetStateV w ex et l0 l1 l2 pl.length (PR pl) q2.length (JB q2) (.bool true)) := by
  have HP := Lib.hid hP
  have HQ := Lib.hid hQ
  have HA := Lib.hid hA
  have HB := Lib.hid hB
  have hL := Lib.hid hl
  have hR := Lib.hid hr
  clear hP hQ hA hB hl hr
  go_enter Tryz.func7, Tryz.ntmps7
  go_wp2_with fail
  refine calls_named ?_
  rintro v0 hv0
  have f0 : Below w.heap.size w v0 := by rw [hv0]; (repeat' (first | (with_reducible exact Below.refl _ _) | (with_reducible assumption) | (with_reducible refine Below.alloc ?_ ?_ _) | (with_reducible refine Below.drew ?_) | (with_reducible refine Below.setCell ?_ ?_ _) | (with_reducible refine bstep (by assumption) ?_ ?_) | (with_reducible exact Nat.le_refl _) | omega | (simp [*]; done) | (simp [*]; omega)))
  have z0 : w.heap.size + 3 ≤ v0.heap.size := by rw [hv0]; simp [size_set]
  have HP_0 := Lib.hid (HP.out.below f0)
  have HP_lt := Lib.hid (fun hn => HP.out.lt hn)
  have HQ_0 := Lib.hid (HQ.out.below f0)
  have HQ_lt := Lib.hid (fun hn => HQ.out.lt hn)
  have Ha_0 : Hid (Blk v0 w.heap.size 37 #[.int .i64 i0, .int .i64 t0, .slice A n c, .slice B m d, .int .i64 l0, .int .i64 l1, .int .i64 l2]) := by rw [hv0]; exact ((Blk.new_at _ _ _ _ (by simp)).alloc _).alloc _
  have Hb_0 : Hid (Blk v0 (w.heap.size + 1) 43 #[.int .i64 ex, .int .i64 et, .int .i64 ec, .int .i64 es, .int .i64 3, .int .i64 ea, .int .i64 eb, .int .i64 eg, .int .i64 eh]) := by rw [hv0]; exact (Blk.new_at _ _ _ _ (by simp)).alloc _
  have Hr_0 : Hid (Blk v0 (w.heap.size + 1 + 1) 37 #[.int .i64 0, .int .i64 0, .slice none 0 0, .slice none 0 0, .int .i64 0, .int .i64 0, .int .i64 0]) := by rw [hv0]; exact Blk.new_at _ _ _ _ (by simp)
  clear hv0
  generalize hg2 : w.heap.size + 1 + 1 = g2 at *
  generalize hg1 : w.heap.size + 1 = g1 at *
  have lg1 : w.heap.size < g1 := by omega
  have lg2 : g1 < g2 := by omega
  have lgz : g2 < v0.heap.size := by omega
  have nq1x0 : ¬ g1 = w.heap.size := by omega
  have nq0x1 : ¬ w.heap.size = g1 := by omega
  have nq2x0 : ¬ g2 = w.heap.size := by omega
  have nq0x2 : ¬ w.heap.size = g2 := by omega
  have nq2x1 : ¬ g2 = g1 := by omega
  have nq1x2 : ¬ g1 = g2 := by omega
  clear hg1 hg2
  have lt_a := Ha_0.out.lt
  have r_a0 : v0.cell? ⟨w.heap.size, 0, none⟩ = some (.int .i64 i0) := Ha_0.out.cell 0
  have r_a1 : v0.cell? ⟨w.heap.size, 1, none⟩ = some (.int .i64 t0) := Ha_0.out.cell 1
  have r_a2 : v0.cell? ⟨w.heap.size, 2, none⟩ = some (.slice A n c) := Ha_0.out.cell 2
  have r_a3 : v0.cell? ⟨w.heap.size, 3, none⟩ = some (.slice B m d) := Ha_0.out.cell 3
  have r_a4 : v0.cell? ⟨w.heap.size, 4, none⟩ = some (.int .i64 l0) := Ha_0.out.cell 4
  have r_a5 : v0.cell? ⟨w.heap.size, 5, none⟩ = some (.int .i64 l1) := Ha_0.out.cell 5
  have r_a6 : v0.cell? ⟨w.heap.size, 6, none⟩ = some (.int .i64 l2) := Ha_0.out.cell 6
  have lt_b := Hb_0.out.lt
  have r_b0 : v0.cell? ⟨g1, 0, none⟩ = some (.int .i64 ex) := Hb_0.out.cell 0
  have r_b1 : v0.cell? ⟨g1, 1, none⟩ = some (.int .i64 et) := Hb_0.out.cell 1
  have r_b2 : v0.cell? ⟨g1, 2, none⟩ = some (.int .i64 ec) := Hb_0.out.cell 2
  have r_b3 : v0.cell? ⟨g1, 3, none⟩ = some (.int .i64 es) := Hb_0.out.cell 3
  have r_b4 : v0.cell? ⟨g1, 4, none⟩ = some (.int .i64 3) := Hb_0.out.cell 4
  have r_b5 : v0.cell? ⟨g1, 5, none⟩ = some (.int .i64 ea) := Hb_0.out.cell 5
  have r_b6 : v0.cell? ⟨g1, 6, none⟩ = some (.int .i64 eb) := Hb_0.out.cell 6
  have r_b7 : v0.cell? ⟨g1, 7, none⟩ = some (.int .i64 eg) := Hb_0.out.cell 7
  have r_b8 : v0.cell? ⟨g1, 8, none⟩ = some (.int .i64 eh) := Hb_0.out.cell 8
  have lt_r := Hr_0.out.lt
  have r_r0 : v0.cell? ⟨g2, 0, none⟩ = some (.int .i64 0) := Hr_0.out.cell 0
  have r_r1 : v0.cell? ⟨g2, 1, none⟩ = some (.int .i64 0) := Hr_0.out.cell 1
  have r_r2 : v0.cell? ⟨g2, 2, none⟩ = some (.slice none 0 0) := Hr_0.out.cell 2
  have r_r3 : v0.cell? ⟨g2, 3, none⟩ = some (.slice none 0 0) := Hr_0.out.cell 3
  have r_r4 : v0.cell? ⟨g2, 4, none⟩ = some (.int .i64 0) := Hr_0.out.cell 4
  have r_r5 : v0.cell? ⟨g2, 5, none⟩ = some (.int .i64 0) := Hr_0.out.cell 5
  have r_r6 : v0.cell? ⟨g2, 6, none⟩ = some (.int .i64 0) := Hr_0.out.cell 6
  have z_r0 := Hr_0.out.frozen 0
  have z_r1 := Hr_0.out.frozen 1
  have z_r2 := Hr_0.out.frozen 2
  have z_r3 := Hr_0.out.frozen 3
  have z_r4 := Hr_0.out.frozen 4
  have z_r5 := Hr_0.out.frozen 5
  have z_r6 := Hr_0.out.frozen 6
  have cc := specStateOk_any A n c B m d i0 t0 l0 l1 l2 pl ql v0 HP_0.out HQ_0.out hL.out hR.out hn hm
  rw [hS.out] at cc
  refine (cc).mono ?_
  rintro e v1 ⟨rfl, b1⟩
  have f1 := bthen f0 b1
  have z1 := b1.size
  have HP_1 := Lib.hid (HP_0.out.below b1)
  have HQ_1 := Lib.hid (HQ_0.out.below b1)
  have Ha_1 := Lib.hid (Ha_0.out.below b1)
  have Hb_1 := Lib.hid (Hb_0.out.below b1)
  have Hr_1 := Lib.hid (Hr_0.out.below b1)
  clear lt_a r_a0 r_a1 r_a2 r_a3 r_a4 r_a5 r_a6 lt_b r_b0 r_b1 r_b2 r_b3 r_b4 r_b5 r_b6 r_b7 r_b8 lt_r r_r0 r_r1 r_r2 r_r3 r_r4 r_r5 r_r6 z_r0 z_r1 z_r2 z_r3 z_r4 z_r5 z_r6
  clear HP_0 HQ_0 Ha_0 Hb_0 Hr_0
  clear cc
  have lt_a := Ha_1.out.lt
  have r_a0 : v1.cell? ⟨w.heap.size, 0, none⟩ = some (.int .i64 i0) := Ha_1.out.cell 0
  have r_a1 : v1.cell? ⟨w.heap.size, 1, none⟩ = some (.int .i64 t0) := Ha_1.out.cell 1
  have r_a2 : v1.cell? ⟨w.heap.size, 2, none⟩ = some (.slice A n c) := Ha_1.out.cell 2
  have r_a3 : v1.cell? ⟨w.heap.size, 3, none⟩ = some (.slice B m d) := Ha_1.out.cell 3
  have r_a4 : v1.cell? ⟨w.heap.size, 4, none⟩ = some (.int .i64 l0) := Ha_1.out.cell 4
  have r_a5 : v1.cell? ⟨w.heap.size, 5, none⟩ = some (.int .i64 l1) := Ha_1.out.cell 5
  have r_a6 : v1.cell? ⟨w.heap.size, 6, none⟩ = some (.int .i64 l2) := Ha_1.out.cell 6
  have lt_b := Hb_1.out.lt
  have r_b0 : v1.cell? ⟨g1, 0, none⟩ = some (.int .i64 ex) := Hb_1.out.cell 0
  have r_b1 : v1.cell? ⟨g1, 1, none⟩ = some (.int .i64 et) := Hb_1.out.cell 1
  have r_b2 : v1.cell? ⟨g1, 2, none⟩ = some (.int .i64 ec) := Hb_1.out.cell 2
  have r_b3 : v1.cell? ⟨g1, 3, none⟩ = some (.int .i64 es) := Hb_1.out.cell 3
  have r_b4 : v1.cell? ⟨g1, 4, none⟩ = some (.int .i64 3) := Hb_1.out.cell 4
  have r_b5 : v1.cell? ⟨g1, 5, none⟩ = some (.int .i64 ea) := Hb_1.out.cell 5
  have r_b6 : v1.cell? ⟨g1, 6, none⟩ = some (.int .i64 eb) := Hb_1.out.cell 6
  have r_b7 : v1.cell? ⟨g1, 7, none⟩ = some (.int .i64 eg) := Hb_1.out.cell 7
  have r_b8 : v1.cell? ⟨g1, 8, none⟩ = some (.int .i64 eh) := Hb_1.out.cell 8
  have lt_r := Hr_1.out.lt
  have r_r0 : v1.cell? ⟨g2, 0, none⟩ = some (.int .i64 0) := Hr_1.out.cell 0
  have r_r1 : v1.cell? ⟨g2, 1, none⟩ = some (.int .i64 0) := Hr_1.out.cell 1
  have r_r2 : v1.cell? ⟨g2, 2, none⟩ = some (.slice none 0 0) := Hr_1.out.cell 2
  have r_r3 : v1.cell? ⟨g2, 3, none⟩ = some (.slice none 0 0) := Hr_1.out.cell 3
  have r_r4 : v1.cell? ⟨g2, 4, none⟩ = some (.int .i64 0) := Hr_1.out.cell 4
  have r_r5 : v1.cell? ⟨g2, 5, none⟩ = some (.int .i64 0) := Hr_1.out.cell 5
  have r_r6 : v1.cell? ⟨g2, 6, none⟩ = some (.int .i64 0) := Hr_1.out.cell 6
  have z_r0 := Hr_1.out.frozen 0
  have z_r1 := Hr_1.out.frozen 1
  have z_r2 := Hr_1.out.frozen 2
  have z_r3 := Hr_1.out.frozen 3
  have z_r4 := Hr_1.out.frozen 4
  have z_r5 := Hr_1.out.frozen 5
  have z_r6 := Hr_1.out.frozen 6
  go_wp2_with fail
  refine (l17Copy_any A n c B m d i0 t0 l0 l1 l2 pl ql _ HP_1.out HQ_1.out hL.out hR.out (by omega) (by omega) HA.out HB.out).mono ?_
  rintro e v2 ⟨A5, c5, B5, d5, rfl, R5, R6, hap, b2⟩
  have HAP := Lib.hid hap
  have Lx := Lib.hid R5.lt
  have Ly := Lib.hid R6.lt
  clear hap
  have f2 := bthen f1 b2
  have z2 := b2.size
  have HP_2 := Lib.hid (HP_1.out.below b2)
  have HQ_2 := Lib.hid (HQ_1.out.below b2)
  have Ha_2 := Lib.hid (Ha_1.out.below b2)
  have Hb_2 := Lib.hid (Hb_1.out.below b2)
  have Hr_2 := Lib.hid (Hr_1.out.below b2)
  clear lt_a r_a0 r_a1 r_a2 r_a3 r_a4 r_a5 r_a6 lt_b r_b0 r_b1 r_b2 r_b3 r_b4 r_b5 r_b6 r_b7 r_b8 lt_r r_r0 r_r1 r_r2 r_r3 r_r4 r_r5 r_r6 z_r0 z_r1 z_r2 z_r3 z_r4 z_r5 z_r6
  clear HP_1 HQ_1 Ha_1 Hb_1 Hr_1
  have Hx_2 := Lib.hid R5
  clear R5
  have Hy_2 := Lib.hid R6
  clear R6
  have lt_a := Ha_2.out.lt
  have r_a0 : v2.cell? ⟨w.heap.size, 0, none⟩ = some (.int .i64 i0) := Ha_2.out.cell 0
  have r_a1 : v2.cell? ⟨w.heap.size, 1, none⟩ = some (.int .i64 t0) := Ha_2.out.cell 1
  have r_a2 : v2.cell? ⟨w.heap.size, 2, none⟩ = some (.slice A n c) := Ha_2.out.cell 2
  have r_a3 : v2.cell? ⟨w.heap.size, 3, none⟩ = some (.slice B m d) := Ha_2.out.cell 3
  have r_a4 : v2.cell? ⟨w.heap.size, 4, none⟩ = some (.int .i64 l0) := Ha_2.out.cell 4
  have r_a5 : v2.cell? ⟨w.heap.size, 5, none⟩ = some (.int .i64 l1) := Ha_2.out.cell 5
  have r_a6 : v2.cell? ⟨w.heap.size, 6, none⟩ = some (.int .i64 l2) := Ha_2.out.cell 6
  have lt_b := Hb_2.out.lt
  have r_b0 : v2.cell? ⟨g1, 0, none⟩ = some (.int .i64 ex) := Hb_2.out.cell 0
  have r_b1 : v2.cell? ⟨g1, 1, none⟩ = some (.int .i64 et) := Hb_2.out.cell 1
  have r_b2 : v2.cell? ⟨g1, 2, none⟩ = some (.int .i64 ec) := Hb_2.out.cell 2
  have r_b3 : v2.cell? ⟨g1, 3, none⟩ = some (.int .i64 es) := Hb_2.out.cell 3
  have r_b4 : v2.cell? ⟨g1, 4, none⟩ = some (.int .i64 3) := Hb_2.out.cell 4
  have r_b5 : v2.cell? ⟨g1, 5, none⟩ = some (.int .i64 ea) := Hb_2.out.cell 5
  have r_b6 : v2.cell? ⟨g1, 6, none⟩ = some (.int .i64 eb) := Hb_2.out.cell 6
  have r_b7 : v2.cell? ⟨g1, 7, none⟩ = some (.int .i64 eg) := Hb_2.out.cell 7
  have r_b8 : v2.cell? ⟨g1, 8, none⟩ = some (.int .i64 eh) := Hb_2.out.cell 8
  have lt_r := Hr_2.out.lt
  have r_r0 : v2.cell? ⟨g2, 0, none⟩ = some (.int .i64 0) := Hr_2.out.cell 0
  have r_r1 : v2.cell? ⟨g2, 1, none⟩ = some (.int .i64 0) := Hr_2.out.cell 1
  have r_r2 : v2.cell? ⟨g2, 2, none⟩ = some (.slice none 0 0) := Hr_2.out.cell 2
  have r_r3 : v2.cell? ⟨g2, 3, none⟩ = some (.slice none 0 0) := Hr_2.out.cell 3
  have r_r4 : v2.cell? ⟨g2, 4, none⟩ = some (.int .i64 0) := Hr_2.out.cell 4
  have r_r5 : v2.cell? ⟨g2, 5, none⟩ = some (.int .i64 0) := Hr_2.out.cell 5
  have r_r6 : v2.cell? ⟨g2, 6, none⟩ = some (.int .i64 0) := Hr_2.out.cell 6
  have z_r0 := Hr_2.out.frozen 0
  have z_r1 := Hr_2.out.frozen 1
  have z_r2 := Hr_2.out.frozen 2
  have z_r3 := Hr_2.out.frozen 3
  have z_r4 := Hr_2.out.frozen 4
  have z_r5 := Hr_2.out.frozen 5
  have z_r6 := Hr_2.out.frozen 6
  go_wp2_with fail
  refine calls_named ?_
  rintro v3 hv3
  have f3 : Below w.heap.size w v3 := by rw [hv3]; (repeat' (first | (with_reducible exact Below.refl _ _) | (with_reducible assumption) | (with_reducible refine Below.alloc ?_ ?_ _) | (with_reducible refine Below.drew ?_) | (with_reducible refine Below.setCell ?_ ?_ _) | (with_reducible refine bstep (by assumption) ?_ ?_) | (with_reducible exact Nat.le_refl _) | omega | (simp [*]; done) | (simp [*]; omega)))
  have z3 : v2.heap.size + 1 ≤ v3.heap.size := by rw [hv3]; simp [size_set]
  have HP_3 : Hid (Sl v3 2 A n (PR pl)) := by rw [hv3]; exact (HP_2.out).alloc _
  have HQ_3 : Hid (Sl v3 5 B m (JB ql)) := by rw [hv3]; exact (HQ_2.out).alloc _
  have Ha_3 : Hid (Blk v3 w.heap.size 37 #[.int .i64 i0, .int .i64 t0, .slice A n c, .slice B m d, .int .i64 l0, .int .i64 l1, .int .i64 l2]) := by rw [hv3]; exact (Ha_2.out).alloc _
  have Hb_3 : Hid (Blk v3 g1 43 #[.int .i64 ex, .int .i64 et, .int .i64 ec, .int .i64 es, .int .i64 3, .int .i64 ea, .int .i64 eb, .int .i64 eg, .int .i64 eh]) := by rw [hv3]; exact (Hb_2.out).alloc _
  have Hr_3 : Hid (Blk v3 g2 37 #[.int .i64 0, .int .i64 0, .slice none 0 0, .slice none 0 0, .int .i64 0, .int .i64 0, .int .i64 0]) := by rw [hv3]; exact (Hr_2.out).alloc _
  have Hx_3 : Hid (Row v3 v1.heap.size 106 2 A5 n c5 (PR pl)) := by rw [hv3]; exact (Hx_2.out).alloc _
  have Hy_3 : Hid (Row v3 v1.heap.size 71 5 B5 m d5 (JB ql)) := by rw [hv3]; exact (Hy_2.out).alloc _
  have Hz_3 : Hid (Blk v3 v2.heap.size 37 #[.int .i64 i0, .int .i64 t0, .slice A5 n c5, .slice B5 m d5, .int .i64 l0, .int .i64 l1, .int .i64 l2]) := by rw [hv3]; exact (Blk.new_at _ _ _ _ (by simp [size_set]))
  clear lt_a r_a0 r_a1 r_a2 r_a3 r_a4 r_a5 r_a6 lt_b r_b0 r_b1 r_b2 r_b3 r_b4 r_b5 r_b6 r_b7 r_b8 lt_r r_r0 r_r1 r_r2 r_r3 r_r4 r_r5 r_r6 z_r0 z_r1 z_r2 z_r3 z_r4 z_r5 z_r6
  clear hv3 HP_2 HQ_2 Ha_2 Hb_2 Hr_2 Hx_2 Hy_2
  have lt_a := Ha_3.out.lt
  have r_a0 : v3.cell? ⟨w.heap.size, 0, none⟩ = some (.int .i64 i0) := Ha_3.out.cell 0
  have r_a1 : v3.cell? ⟨w.heap.size, 1, none⟩ = some (.int .i64 t0) := Ha_3.out.cell 1
  have r_a2 : v3.cell? ⟨w.heap.size, 2, none⟩ = some (.slice A n c) := Ha_3.out.cell 2
  have r_a3 : v3.cell? ⟨w.heap.size, 3, none⟩ = some (.slice B m d) := Ha_3.out.cell 3
  have r_a4 : v3.cell? ⟨w.heap.size, 4, none⟩ = some (.int .i64 l0) := Ha_3.out.cell 4
  have r_a5 : v3.cell? ⟨w.heap.size, 5, none⟩ = some (.int .i64 l1) := Ha_3.out.cell 5
  have r_a6 : v3.cell? ⟨w.heap.size, 6, none⟩ = some (.int .i64 l2) := Ha_3.out.cell 6
  have lt_b := Hb_3.out.lt
  have r_b0 : v3.cell? ⟨g1, 0, none⟩ = some (.int .i64 ex) := Hb_3.out.cell 0
  have r_b1 : v3.cell? ⟨g1, 1, none⟩ = some (.int .i64 et) := Hb_3.out.cell 1
  have r_b2 : v3.cell? ⟨g1, 2, none⟩ = some (.int .i64 ec) := Hb_3.out.cell 2
  have r_b3 : v3.cell? ⟨g1, 3, none⟩ = some (.int .i64 es) := Hb_3.out.cell 3
  have r_b4 : v3.cell? ⟨g1, 4, none⟩ = some (.int .i64 3) := Hb_3.out.cell 4
  have r_b5 : v3.cell? ⟨g1, 5, none⟩ = some (.int .i64 ea) := Hb_3.out.cell 5
  have r_b6 : v3.cell? ⟨g1, 6, none⟩ = some (.int .i64 eb) := Hb_3.out.cell 6
  have r_b7 : v3.cell? ⟨g1, 7, none⟩ = some (.int .i64 eg) := Hb_3.out.cell 7
  have r_b8 : v3.cell? ⟨g1, 8, none⟩ = some (.int .i64 eh) := Hb_3.out.cell 8
  have lt_r := Hr_3.out.lt
  have r_r0 : v3.cell? ⟨g2, 0, none⟩ = some (.int .i64 0) := Hr_3.out.cell 0
  have r_r1 : v3.cell? ⟨g2, 1, none⟩ = some (.int .i64 0) := Hr_3.out.cell 1
  have r_r2 : v3.cell? ⟨g2, 2, none⟩ = some (.slice none 0 0) := Hr_3.out.cell 2
  have r_r3 : v3.cell? ⟨g2, 3, none⟩ = some (.slice none 0 0) := Hr_3.out.cell 3
  have r_r4 : v3.cell? ⟨g2, 4, none⟩ = some (.int .i64 0) := Hr_3.out.cell 4
  have r_r5 : v3.cell? ⟨g2, 5, none⟩ = some (.int .i64 0) := Hr_3.out.cell 5
  have r_r6 : v3.cell? ⟨g2, 6, none⟩ = some (.int .i64 0) := Hr_3.out.cell 6
  have z_r0 := Hr_3.out.frozen 0
  have z_r1 := Hr_3.out.frozen 1
  have z_r2 := Hr_3.out.frozen 2
  have z_r3 := Hr_3.out.frozen 3
  have z_r4 := Hr_3.out.frozen 4
  have z_r5 := Hr_3.out.frozen 5
  have z_r6 := Hr_3.out.frozen 6
  have lt_z := Hz_3.out.lt
  have r_z0 : v3.cell? ⟨v2.heap.size, 0, none⟩ = some (.int .i64 i0) := Hz_3.out.cell 0
  have r_z1 : v3.cell? ⟨v2.heap.size, 1, none⟩ = some (.int .i64 t0) := Hz_3.out.cell 1
  have r_z2 : v3.cell? ⟨v2.heap.size, 2, none⟩ = some (.slice A5 n c5) := Hz_3.out.cell 2
  have r_z3 : v3.cell? ⟨v2.heap.size, 3, none⟩ = some (.slice B5 m d5) := Hz_3.out.cell 3
  have r_z4 : v3.cell? ⟨v2.heap.size, 4, none⟩ = some (.int .i64 l0) := Hz_3.out.cell 4
  have r_z5 : v3.cell? ⟨v2.heap.size, 5, none⟩ = some (.int .i64 l1) := Hz_3.out.cell 5
  have r_z6 : v3.cell? ⟨v2.heap.size, 6, none⟩ = some (.int .i64 l2) := Hz_3.out.cell 6
  have z_z0 := Hz_3.out.frozen 0
  have z_z1 := Hz_3.out.frozen 1
  have z_z2 := Hz_3.out.frozen 2
  have z_z3 := Hz_3.out.frozen 3
  have z_z4 := Hz_3.out.frozen 4
  have z_z5 := Hz_3.out.frozen 5
  have z_z6 := Hz_3.out.frozen 6
  have cc := specEffectOf_any A n c B m d i0 t0 l0 l1 l2 pl ql ex et ec es 3 ea eb eg eh v3 HP_3.out HQ_3.out hL.out hR.out hn hm HA.out HB.out _ hx.out
  refine (cc).mono ?_
  rintro e v4 ⟨rfl, b4⟩
  have f4 := bthen f3 b4
  have z4 := b4.size
  have HP_4 := Lib.hid (HP_3.out.below b4)
  have HQ_4 := Lib.hid (HQ_3.out.below b4)
  have Ha_4 := Lib.hid (Ha_3.out.below b4)
  have Hb_4 := Lib.hid (Hb_3.out.below b4)
  have Hr_4 := Lib.hid (Hr_3.out.below b4)
  have Hx_4 := Lib.hid (Hx_3.out.below b4)
  have Hy_4 := Lib.hid (Hy_3.out.below b4)
  have Hz_4 := Lib.hid (Hz_3.out.below b4)
  clear lt_a r_a0 r_a1 r_a2 r_a3 r_a4 r_a5 r_a6 lt_b r_b0 r_b1 r_b2 r_b3 r_b4 r_b5 r_b6 r_b7 r_b8 lt_r r_r0 r_r1 r_r2 r_r3 r_r4 r_r5 r_r6 z_r0 z_r1 z_r2 z_r3 z_r4 z_r5 z_r6 lt_z r_z0 r_z1 r_z2 r_z3 r_z4 r_z5 r_z6 z_z0 z_z1 z_z2 z_z3 z_z4 z_z5 z_z6
  clear HP_3 HQ_3 Ha_3 Hb_3 Hr_3 Hx_3 Hy_3 Hz_3
  clear cc
  have lt_a := Ha_4.out.lt
  have r_a0 : v4.cell? ⟨w.heap.size, 0, none⟩ = some (.int .i64 i0) := Ha_4.out.cell 0
  have r_a1 : v4.cell? ⟨w.heap.size, 1, none⟩ = some (.int .i64 t0) := Ha_4.out.cell 1
  have r_a2 : v4.cell? ⟨w.heap.size, 2, none⟩ = some (.slice A n c) := Ha_4.out.cell 2
  have r_a3 : v4.cell? ⟨w.heap.size, 3, none⟩ = some (.slice B m d) := Ha_4.out.cell 3
  have r_a4 : v4.cell? ⟨w.heap.size, 4, none⟩ = some (.int .i64 l0) := Ha_4.out.cell 4
  have r_a5 : v4.cell? ⟨w.heap.size, 5, none⟩ = some (.int .i64 l1) := Ha_4.out.cell 5
  have r_a6 : v4.cell? ⟨w.heap.size, 6, none⟩ = some (.int .i64 l2) := Ha_4.out.cell 6
  have lt_b := Hb_4.out.lt
  have r_b0 : v4.cell? ⟨g1, 0, none⟩ = some (.int .i64 ex) := Hb_4.out.cell 0
  have r_b1 : v4.cell? ⟨g1, 1, none⟩ = some (.int .i64 et) := Hb_4.out.cell 1
  have r_b2 : v4.cell? ⟨g1, 2, none⟩ = some (.int .i64 ec) := Hb_4.out.cell 2
  have r_b3 : v4.cell? ⟨g1, 3, none⟩ = some (.int .i64 es) := Hb_4.out.cell 3
  have r_b4 : v4.cell? ⟨g1, 4, none⟩ = some (.int .i64 3) := Hb_4.out.cell 4
  have r_b5 : v4.cell? ⟨g1, 5, none⟩ = some (.int .i64 ea) := Hb_4.out.cell 5
  have r_b6 : v4.cell? ⟨g1, 6, none⟩ = some (.int .i64 eb) := Hb_4.out.cell 6
  have r_b7 : v4.cell? ⟨g1, 7, none⟩ = some (.int .i64 eg) := Hb_4.out.cell 7
  have r_b8 : v4.cell? ⟨g1, 8, none⟩ = some (.int .i64 eh) := Hb_4.out.cell 8
  have lt_r := Hr_4.out.lt
  have r_r0 : v4.cell? ⟨g2, 0, none⟩ = some (.int .i64 0) := Hr_4.out.cell 0
  have r_r1 : v4.cell? ⟨g2, 1, none⟩ = some (.int .i64 0) := Hr_4.out.cell 1
  have r_r2 : v4.cell? ⟨g2, 2, none⟩ = some (.slice none 0 0) := Hr_4.out.cell 2
  have r_r3 : v4.cell? ⟨g2, 3, none⟩ = some (.slice none 0 0) := Hr_4.out.cell 3
  have r_r4 : v4.cell? ⟨g2, 4, none⟩ = some (.int .i64 0) := Hr_4.out.cell 4
  have r_r5 : v4.cell? ⟨g2, 5, none⟩ = some (.int .i64 0) := Hr_4.out.cell 5
  have r_r6 : v4.cell? ⟨g2, 6, none⟩ = some (.int .i64 0) := Hr_4.out.cell 6
  have z_r0 := Hr_4.out.frozen 0
  have z_r1 := Hr_4.out.frozen 1
  have z_r2 := Hr_4.out.frozen 2
  have z_r3 := Hr_4.out.frozen 3
  have z_r4 := Hr_4.out.frozen 4
  have z_r5 := Hr_4.out.frozen 5
  have z_r6 := Hr_4.out.frozen 6
  have lt_z := Hz_4.out.lt
  have r_z0 : v4.cell? ⟨v2.heap.size, 0, none⟩ = some (.int .i64 i0) := Hz_4.out.cell 0
  have r_z1 : v4.cell? ⟨v2.heap.size, 1, none⟩ = some (.int .i64 t0) := Hz_4.out.cell 1
  have r_z2 : v4.cell? ⟨v2.heap.size, 2, none⟩ = some (.slice A5 n c5) := Hz_4.out.cell 2
  have r_z3 : v4.cell? ⟨v2.heap.size, 3, none⟩ = some (.slice B5 m d5) := Hz_4.out.cell 3
  have r_z4 : v4.cell? ⟨v2.heap.size, 4, none⟩ = some (.int .i64 l0) := Hz_4.out.cell 4
  have r_z5 : v4.cell? ⟨v2.heap.size, 5, none⟩ = some (.int .i64 l1) := Hz_4.out.cell 5
  have r_z6 : v4.cell? ⟨v2.heap.size, 6, none⟩ = some (.int .i64 l2) := Hz_4.out.cell 6
  have z_z0 := Hz_4.out.frozen 0
  have z_z1 := Hz_4.out.frozen 1
  have z_z2 := Hz_4.out.frozen 2
  have z_z3 := Hz_4.out.frozen 3
  have z_z4 := Hz_4.out.frozen 4
  have z_z5 := Hz_4.out.frozen 5
  have z_z6 := Hz_4.out.frozen 6
  go_upto_region 15 with fail
  obtain ⟨v5, hv5⟩ : ∃ x : World, x = ((v4.setCell ⟨v2.heap.size, 0, none⟩ (.int .i64 ex)).setCell ⟨v2.heap.size, 1, none⟩ (.int .i64 et)) := ⟨_, rfl⟩
  rw [← hv5]
  have f5 : Below w.heap.size w v5 := by rw [hv5]; (repeat' (first | (with_reducible exact Below.refl _ _) | (with_reducible assumption) | (with_reducible refine Below.alloc ?_ ?_ _) | (with_reducible refine Below.drew ?_) | (with_reducible refine Below.setCell ?_ ?_ _) | (with_reducible refine bstep (by assumption) ?_ ?_) | (with_reducible exact Nat.le_refl _) | omega | (simp [*]; done) | (simp [*]; omega)))
  have z5 : v4.heap.size + 0 ≤ v5.heap.size := by rw [hv5]; simp [size_set]
  have HP_5 : Hid (Sl v5 2 A n (PR pl)) := by rw [hv5]; exact ((HP_4.out).far (p := ⟨v2.heap.size, 0, none⟩) (fun hn a ha => by have := HP_lt.out hn a ha; show a.block ≠ v2.heap.size; omega) _).far (p := ⟨v2.heap.size, 1, none⟩) (fun hn a ha => by have := HP_lt.out hn a ha; show a.block ≠ v2.heap.size; omega) _
  have HQ_5 : Hid (Sl v5 5 B m (JB ql)) := by rw [hv5]; exact ((HQ_4.out).far (p := ⟨v2.heap.size, 0, none⟩) (fun hn a ha => by have := HQ_lt.out hn a ha; show a.block ≠ v2.heap.size; omega) _).far (p := ⟨v2.heap.size, 1, none⟩) (fun hn a ha => by have := HQ_lt.out hn a ha; show a.block ≠ v2.heap.size; omega) _
  have Ha_5 : Hid (Blk v5 w.heap.size 37 #[.int .i64 i0, .int .i64 t0, .slice A n c, .slice B m d, .int .i64 l0, .int .i64 l1, .int .i64 l2]) := by rw [hv5]; exact ((Ha_4.out).far (p := ⟨v2.heap.size, 0, none⟩) (show w.heap.size ≠ v2.heap.size by omega) _).far (p := ⟨v2.heap.size, 1, none⟩) (show w.heap.size ≠ v2.heap.size by omega) _
  have Hb_5 : Hid (Blk v5 g1 43 #[.int .i64 ex, .int .i64 et, .int .i64 ec, .int .i64 es, .int .i64 3, .int .i64 ea, .int .i64 eb, .int .i64 eg, .int .i64 eh]) := by rw [hv5]; exact ((Hb_4.out).far (p := ⟨v2.heap.size, 0, none⟩) (show g1 ≠ v2.heap.size by omega) _).far (p := ⟨v2.heap.size, 1, none⟩) (show g1 ≠ v2.heap.size by omega) _
  have Hr_5 : Hid (Blk v5 g2 37 #[.int .i64 0, .int .i64 0, .slice none 0 0, .slice none 0 0, .int .i64 0, .int .i64 0, .int .i64 0]) := by rw [hv5]; exact ((Hr_4.out).far (p := ⟨v2.heap.size, 0, none⟩) (show g2 ≠ v2.heap.size by omega) _).far (p := ⟨v2.heap.size, 1, none⟩) (show g2 ≠ v2.heap.size by omega) _
  have Hx_5 : Hid (Row v5 v1.heap.size 106 2 A5 n c5 (PR pl)) := by rw [hv5]; exact ((Hx_4.out).far (p := ⟨v2.heap.size, 0, none⟩) (fun a ha => by have := Lx.out a ha; show a.block ≠ v2.heap.size; omega) _).far (p := ⟨v2.heap.size, 1, none⟩) (fun a ha => by have := Lx.out a ha; show a.block ≠ v2.heap.size; omega) _
  have Hy_5 : Hid (Row v5 v1.heap.size 71 5 B5 m d5 (JB ql)) := by rw [hv5]; exact ((Hy_4.out).far (p := ⟨v2.heap.size, 0, none⟩) (fun a ha => by have := Ly.out a ha; show a.block ≠ v2.heap.size; omega) _).far (p := ⟨v2.heap.size, 1, none⟩) (fun a ha => by have := Ly.out a ha; show a.block ≠ v2.heap.size; omega) _
  have Hz_5 : Hid (Blk v5 v2.heap.size 37 #[.int .i64 ex, .int .i64 et, .slice A5 n c5, .slice B5 m d5, .int .i64 l0, .int .i64 l1, .int .i64 l2]) := by rw [hv5]; exact ((Hz_4.out).set_ 0 _).set_ 1 _
  clear lt_a r_a0 r_a1 r_a2 r_a3 r_a4 r_a5 r_a6 lt_b r_b0 r_b1 r_b2 r_b3 r_b4 r_b5 r_b6 r_b7 r_b8 lt_r r_r0 r_r1 r_r2 r_r3 r_r4 r_r5 r_r6 z_r0 z_r1 z_r2 z_r3 z_r4 z_r5 z_r6 lt_z r_z0 r_z1 r_z2 r_z3 r_z4 r_z5 r_z6 z_z0 z_z1 z_z2 z_z3 z_z4 z_z5 z_z6
  clear hv5 HP_4 HQ_4 Ha_4 Hb_4 Hr_4 Hx_4 Hy_4 Hz_4
  have lt_a := Ha_5.out.lt
  have r_a0 : v5.cell? ⟨w.heap.size, 0, none⟩ = some (.int .i64 i0) := Ha_5.out.cell 0
  have r_a1 : v5.cell? ⟨w.heap.size, 1, none⟩ = some (.int .i64 t0) := Ha_5.out.cell 1
  have r_a2 : v5.cell? ⟨w.heap.size, 2, none⟩ = some (.slice A n c) := Ha_5.out.cell 2
  have r_a3 : v5.cell? ⟨w.heap.size, 3, none⟩ = some (.slice B m d) := Ha_5.out.cell 3
  have r_a4 : v5.cell? ⟨w.heap.size, 4, none⟩ = some (.int .i64 l0) := Ha_5.out.cell 4
  have r_a5 : v5.cell? ⟨w.heap.size, 5, none⟩ = some (.int .i64 l1) := Ha_5.out.cell 5
  have r_a6 : v5.cell? ⟨w.heap.size, 6, none⟩ = some (.int .i64 l2) := Ha_5.out.cell 6
  have lt_b := Hb_5.out.lt
  have r_b0 : v5.cell? ⟨g1, 0, none⟩ = some (.int .i64 ex) := Hb_5.out.cell 0
  have r_b1 : v5.cell? ⟨g1, 1, none⟩ = some (.int .i64 et) := Hb_5.out.cell 1
  have r_b2 : v5.cell? ⟨g1, 2, none⟩ = some (.int .i64 ec) := Hb_5.out.cell 2
  have r_b3 : v5.cell? ⟨g1, 3, none⟩ = some (.int .i64 es) := Hb_5.out.cell 3
  have r_b4 : v5.cell? ⟨g1, 4, none⟩ = some (.int .i64 3) := Hb_5.out.cell 4
  have r_b5 : v5.cell? ⟨g1, 5, none⟩ = some (.int .i64 ea) := Hb_5.out.cell 5
  have r_b6 : v5.cell? ⟨g1, 6, none⟩ = some (.int .i64 eb) := Hb_5.out.cell 6
  have r_b7 : v5.cell? ⟨g1, 7, none⟩ = some (.int .i64 eg) := Hb_5.out.cell 7
  have r_b8 : v5.cell? ⟨g1, 8, none⟩ = some (.int .i64 eh) := Hb_5.out.cell 8
  have lt_r := Hr_5.out.lt
  have r_r0 : v5.cell? ⟨g2, 0, none⟩ = some (.int .i64 0) := Hr_5.out.cell 0
  have r_r1 : v5.cell? ⟨g2, 1, none⟩ = some (.int .i64 0) := Hr_5.out.cell 1
  have r_r2 : v5.cell? ⟨g2, 2, none⟩ = some (.slice none 0 0) := Hr_5.out.cell 2
  have r_r3 : v5.cell? ⟨g2, 3, none⟩ = some (.slice none 0 0) := Hr_5.out.cell 3
  have r_r4 : v5.cell? ⟨g2, 4, none⟩ = some (.int .i64 0) := Hr_5.out.cell 4
  have r_r5 : v5.cell? ⟨g2, 5, none⟩ = some (.int .i64 0) := Hr_5.out.cell 5
  have r_r6 : v5.cell? ⟨g2, 6, none⟩ = some (.int .i64 0) := Hr_5.out.cell 6
  have z_r0 := Hr_5.out.frozen 0
  have z_r1 := Hr_5.out.frozen 1
  have z_r2 := Hr_5.out.frozen 2
  have z_r3 := Hr_5.out.frozen 3
  have z_r4 := Hr_5.out.frozen 4
  have z_r5 := Hr_5.out.frozen 5
  have z_r6 := Hr_5.out.frozen 6
  have lt_z := Hz_5.out.lt
  have r_z0 : v5.cell? ⟨v2.heap.size, 0, none⟩ = some (.int .i64 ex) := Hz_5.out.cell 0
  have r_z1 : v5.cell? ⟨v2.heap.size, 1, none⟩ = some (.int .i64 et) := Hz_5.out.cell 1
  have r_z2 : v5.cell? ⟨v2.heap.size, 2, none⟩ = some (.slice A5 n c5) := Hz_5.out.cell 2
  have r_z3 : v5.cell? ⟨v2.heap.size, 3, none⟩ = some (.slice B5 m d5) := Hz_5.out.cell 3
  have r_z4 : v5.cell? ⟨v2.heap.size, 4, none⟩ = some (.int .i64 l0) := Hz_5.out.cell 4
  have r_z5 : v5.cell? ⟨v2.heap.size, 5, none⟩ = some (.int .i64 l1) := Hz_5.out.cell 5
  have r_z6 : v5.cell? ⟨v2.heap.size, 6, none⟩ = some (.int .i64 l2) := Hz_5.out.cell 6
  have z_z0 := Hz_5.out.frozen 0
  have z_z1 := Hz_5.out.frozen 1
  have z_z2 := Hz_5.out.frozen 2
  have z_z3 := Hz_5.out.frozen 3
  have z_z4 := Hz_5.out.frozen 4
  have z_z5 := Hz_5.out.frozen 5
  have z_z6 := Hz_5.out.frozen 6
  have hS0 : ∀ b o, b < v5.heap.size → b ≠ v2.heap.size → v5.cell? ⟨b, o, none⟩ = v5.cell? ⟨b, o, none⟩ := fun b o hb hk => rfl
  have nzb : ¬ g1 = v2.heap.size := by omega
  have nza : ¬ w.heap.size = v2.heap.size := by omega
  have cc : ∀ u1, Below v5.heap.size v5 u1 → Calls Tryz.prog 31 #[.slice B m d, .agg #[.int .i64 ea, .int .i64 eb, .int .i64 eg, .int .i64 eh, .int .i64 0]] u1 (RetRowB u1 71 5 k2 (JB q2) ok) := fun u1 hb => by
    have c1 := addedRS_any B m d ql ea eb eg eh 0 u1 (HQ_5.out.below hb) hR.out hm HB.out
    rw [hv.out] at c1
    have := hk2.out
    subst this
    exact c1
  go_region_held_law (fun w' => ∀ b o, b < v5.heap.size → b ≠ v2.heap.size → w'.cell? ⟨b, o, none⟩ = v5.cell? ⟨b, o, none⟩) (repeat' (first | with_reducible assumption | with_reducible exact hS0 | with_reducible refine hn_drew ?_ | with_reducible refine hn_set ?_ _ _)) (first | (go_at_call 32; refine (l17Job_any 3 ea eb eg eh _).mono ?_; rintro e u1 ⟨rfl, b1_⟩; have E1 : Below v5.heap.size v5 u1 := (by first | with_reducible exact b1_ | with_reducible exact tb_dr b1_); have hS1 : ∀ b o, b < v5.heap.size → b ≠ v2.heap.size → u1.cell? ⟨b, o, none⟩ = v5.cell? ⟨b, o, none⟩ := fun b o hb hk => E1.cell (p := ⟨b, o, none⟩) hb) | (go_at_call 31; refine (cc _ E1).mono ?_; rintro e u2 ⟨A6, c6, rfl, R7, b2_⟩; have E2 := bthen E1 b2_; have hS2 : ∀ b o, b < v5.heap.size → b ≠ v2.heap.size → u2.cell? ⟨b, o, none⟩ = v5.cell? ⟨b, o, none⟩ := fun b o hb hk => E2.cell (p := ⟨b, o, none⟩) hb; have Kz := Hz_5.out.below E2; have Kr := Hr_5.out.below E2; have kzb0 := Kz.cell 0; have kzf0 := Kz.frozen 0; have kzb1 := Kz.cell 1; have kzf1 := Kz.frozen 1; have kzb2 := Kz.cell 2; have kzf2 := Kz.frozen 2; have kzb3 := Kz.cell 3; have kzf3 := Kz.frozen 3; have kzb4 := Kz.cell 4; have kzf4 := Kz.frozen 4; have kzb5 := Kz.cell 5; have kzf5 := Kz.frozen 5; have kzb6 := Kz.cell 6; have kzf6 := Kz.frozen 6; have kzl := Kz.lt; have krb0 := Kr.cell 0; have krf0 := Kr.frozen 0; have krb1 := Kr.cell 1; have krf1 := Kr.frozen 1; have krb2 := Kr.cell 2; have krf2 := Kr.frozen 2; have krb3 := Kr.cell 3; have krf3 := Kr.frozen 3; have krb4 := Kr.cell 4; have krf4 := Kr.frozen 4; have krb5 := Kr.cell 5; have krf5 := Kr.frozen 5; have krb6 := Kr.cell 6; have krf6 := Kr.frozen 6; have krl := Kr.lt))
  all_goals
    go_wp21
    refine bodyPost_ret (v := .tuple #[.agg #[.int .i64 ex, .int .i64 et, .slice A5 n c5, .slice A6 k2 c6, .int .i64 l0, .int .i64 l1, .int .i64 l2], .bool true]) (by simp [results, Tryz.results7, go_sem, *]) rfl ?_
    have R8 := R7.mono (show w.heap.size ≤ _ from Nat.le_trans f5.size E1.size)
    have X8 := Hx_5.out.below E2
    have hs1 := E1.size
    have nx1 : ∀ a, A5 = some a → a.block ≠ g2 := fun a ha => by have := Hx_5.out.ge a ha; omega
    have nx2 : ∀ a, A5 = some a → a.block ≠ v2.heap.size := fun a ha => by have := Lx.out a ha; omega
    have nu1 : ∀ a, A6 = some a → a.block ≠ g2 := fun a ha => by have := R7.ge a ha; omega
    have nu2 : ∀ a, A6 = some a → a.block ≠ v2.heap.size := fun a ha => by have := R7.ge a ha; omega
    exact RetStateV.mk hL.out hk2.out (row_far7 ((X8.far (p := ⟨v2.heap.size, 3, none⟩) nx2 _).mono (by omega)) nx1 _ _ _ _ _ _ _) (row_far7 (R8.far (p := ⟨v2.heap.size, 3, none⟩) nu2 _) nu1 _ _ _ _ _ _ _) (fun a b ha hb => by have h1 := Lx.out a ha; have h2 := R7.ge b hb; omega) (below_far7 ((bthen f5 E2).setCell (p := ⟨v2.heap.size, 3, none⟩) (show w.heap.size ≤ v2.heap.size by omega) _) (show w.heap.size ≤ g2 by omega) _ _ _ _ _ _ _)
set_option maxRecDepth 100000 in
set_option maxHeartbeats 4000000 in
theorem specApp_4 (A : Option Addr) (n c : Nat) (B : Option Addr) (m d : Nat) (i0 t0 l0 l1 l2 : Int) (pl : List Pr) (ql : List Jb) (ex et ec es ea eb eg eh : Int) (w : World) (hP : Sl w 2 A n (PR pl)) (hQ : Sl w 5 B m (JB ql)) (hl : pl.length = n) (hr : ql.length = m) (hn : n ≤ maxLen) (hm : m ≤ maxLen) (hA : A = none → n = 0 ∧ c = 0) (hB : B = none → m = 0 ∧ d = 0) (hS : Hid (stateB i0 t0 l0 l1 l2 pl ql = true)) (hn10 : n ≤ 10) (hm8 : m ≤ 8) (hx : Hid (effI i0 t0 l0 l1 l2 pl ql ex et ec es 4 ea eb eg eh = 4)) (p2 : List Pr) (q2 : List Jb) (o1 o2 jo : Bool) (n2 m2 : Nat) (ji jd jk jv jf : Int) (hj : Hid (jobAtR ql ea = (⟨ji, jd, jk, jv, jf⟩, jo))) (hq2 : Hid (firedR ql ea ex = (q2, o2))) (hp2 : Hid (putR pl jk jv = (p2, o1))) (hm2 : Hid (q2.length = m2)) (hn2 : Hid (p2.length = n2)) :
    Calls Tryz.prog 7 #[.agg #[.int .i64 i0, .int .i64 t0, .slice A n c, .slice B m d, .int .i64 l0, .int .i64 l1, .int .i64 l2], .agg #[.int .i64 ex, .int .i64 et, .int .i64 ec, .int .i64 es, .int .i64 4, .int .i64 ea, .int .i64 eb, .int .i64 eg, .int .i64 eh]] w (RetStateV w ex et l0 l1 l2 p2.length (PR p2) q2.length (JB q2) (.bool true)) := by
  have HP := Lib.hid hP
  have HQ := Lib.hid hQ
  have HA := Lib.hid hA
  have HB := Lib.hid hB
  have hL := Lib.hid hl
  have hR := Lib.hid hr
  clear hP hQ hA hB hl hr
  go_enter Tryz.func7, Tryz.ntmps7
  go_wp2_with fail
  refine calls_named ?_
  rintro v0 hv0
  have f0 : Below w.heap.size w v0 := by rw [hv0]; (repeat' (first | (with_reducible exact Below.refl _ _) | (with_reducible assumption) | (with_reducible refine Below.alloc ?_ ?_ _) | (with_reducible refine Below.drew ?_) | (with_reducible refine Below.setCell ?_ ?_ _) | (with_reducible refine bstep (by assumption) ?_ ?_) | (with_reducible exact Nat.le_refl _) | omega | (simp [*]; done) | (simp [*]; omega)))
  have z0 : w.heap.size + 3 ≤ v0.heap.size := by rw [hv0]; simp [size_set]
  have HP_0 := Lib.hid (HP.out.below f0)
  have HP_lt := Lib.hid (fun hn => HP.out.lt hn)
  have HQ_0 := Lib.hid (HQ.out.below f0)
  have HQ_lt := Lib.hid (fun hn => HQ.out.lt hn)
  have Ha_0 : Hid (Blk v0 w.heap.size 37 #[.int .i64 i0, .int .i64 t0, .slice A n c, .slice B m d, .int .i64 l0, .int .i64 l1, .int .i64 l2]) := by rw [hv0]; exact ((Blk.new_at _ _ _ _ (by simp)).alloc _).alloc _
  have Hb_0 : Hid (Blk v0 (w.heap.size + 1) 43 #[.int .i64 ex, .int .i64 et, .int .i64 ec, .int .i64 es, .int .i64 4, .int .i64 ea, .int .i64 eb, .int .i64 eg, .int .i64 eh]) := by rw [hv0]; exact (Blk.new_at _ _ _ _ (by simp)).alloc _
  have Hr_0 : Hid (Blk v0 (w.heap.size + 1 + 1) 37 #[.int .i64 0, .int .i64 0, .slice none 0 0, .slice none 0 0, .int .i64 0, .int .i64 0, .int .i64 0]) := by rw [hv0]; exact Blk.new_at _ _ _ _ (by simp)
  clear hv0
  generalize hg2 : w.heap.size + 1 + 1 = g2 at *
  generalize hg1 : w.heap.size + 1 = g1 at *
  have lg1 : w.heap.size < g1 := by omega
  have lg2 : g1 < g2 := by omega
  have lgz : g2 < v0.heap.size := by omega
  have nq1x0 : ¬ g1 = w.heap.size := by omega
  have nq0x1 : ¬ w.heap.size = g1 := by omega
  have nq2x0 : ¬ g2 = w.heap.size := by omega
  have nq0x2 : ¬ w.heap.size = g2 := by omega
  have nq2x1 : ¬ g2 = g1 := by omega
  have nq1x2 : ¬ g1 = g2 := by omega
  clear hg1 hg2
  have lt_a := Ha_0.out.lt
  have r_a0 : v0.cell? ⟨w.heap.size, 0, none⟩ = some (.int .i64 i0) := Ha_0.out.cell 0
  have r_a1 : v0.cell? ⟨w.heap.size, 1, none⟩ = some (.int .i64 t0) := Ha_0.out.cell 1
  have r_a2 : v0.cell? ⟨w.heap.size, 2, none⟩ = some (.slice A n c) := Ha_0.out.cell 2
  have r_a3 : v0.cell? ⟨w.heap.size, 3, none⟩ = some (.slice B m d) := Ha_0.out.cell 3
  have r_a4 : v0.cell? ⟨w.heap.size, 4, none⟩ = some (.int .i64 l0) := Ha_0.out.cell 4
  have r_a5 : v0.cell? ⟨w.heap.size, 5, none⟩ = some (.int .i64 l1) := Ha_0.out.cell 5
  have r_a6 : v0.cell? ⟨w.heap.size, 6, none⟩ = some (.int .i64 l2) := Ha_0.out.cell 6
  have lt_b := Hb_0.out.lt
  have r_b0 : v0.cell? ⟨g1, 0, none⟩ = some (.int .i64 ex) := Hb_0.out.cell 0
  have r_b1 : v0.cell? ⟨g1, 1, none⟩ = some (.int .i64 et) := Hb_0.out.cell 1
  have r_b2 : v0.cell? ⟨g1, 2, none⟩ = some (.int .i64 ec) := Hb_0.out.cell 2
  have r_b3 : v0.cell? ⟨g1, 3, none⟩ = some (.int .i64 es) := Hb_0.out.cell 3
  have r_b4 : v0.cell? ⟨g1, 4, none⟩ = some (.int .i64 4) := Hb_0.out.cell 4
  have r_b5 : v0.cell? ⟨g1, 5, none⟩ = some (.int .i64 ea) := Hb_0.out.cell 5
  have r_b6 : v0.cell? ⟨g1, 6, none⟩ = some (.int .i64 eb) := Hb_0.out.cell 6
  have r_b7 : v0.cell? ⟨g1, 7, none⟩ = some (.int .i64 eg) := Hb_0.out.cell 7
  have r_b8 : v0.cell? ⟨g1, 8, none⟩ = some (.int .i64 eh) := Hb_0.out.cell 8
  have lt_r := Hr_0.out.lt
  have r_r0 : v0.cell? ⟨g2, 0, none⟩ = some (.int .i64 0) := Hr_0.out.cell 0
  have r_r1 : v0.cell? ⟨g2, 1, none⟩ = some (.int .i64 0) := Hr_0.out.cell 1
  have r_r2 : v0.cell? ⟨g2, 2, none⟩ = some (.slice none 0 0) := Hr_0.out.cell 2
  have r_r3 : v0.cell? ⟨g2, 3, none⟩ = some (.slice none 0 0) := Hr_0.out.cell 3
  have r_r4 : v0.cell? ⟨g2, 4, none⟩ = some (.int .i64 0) := Hr_0.out.cell 4
  have r_r5 : v0.cell? ⟨g2, 5, none⟩ = some (.int .i64 0) := Hr_0.out.cell 5
  have r_r6 : v0.cell? ⟨g2, 6, none⟩ = some (.int .i64 0) := Hr_0.out.cell 6
  have z_r0 := Hr_0.out.frozen 0
  have z_r1 := Hr_0.out.frozen 1
  have z_r2 := Hr_0.out.frozen 2
  have z_r3 := Hr_0.out.frozen 3
  have z_r4 := Hr_0.out.frozen 4
  have z_r5 := Hr_0.out.frozen 5
  have z_r6 := Hr_0.out.frozen 6
  have cc := specStateOk_any A n c B m d i0 t0 l0 l1 l2 pl ql v0 HP_0.out HQ_0.out hL.out hR.out hn hm
  rw [hS.out] at cc
  refine (cc).mono ?_
  rintro e v1 ⟨rfl, b1⟩
  have f1 := bthen f0 b1
  have z1 := b1.size
  have HP_1 := Lib.hid (HP_0.out.below b1)
  have HQ_1 := Lib.hid (HQ_0.out.below b1)
  have Ha_1 := Lib.hid (Ha_0.out.below b1)
  have Hb_1 := Lib.hid (Hb_0.out.below b1)
  have Hr_1 := Lib.hid (Hr_0.out.below b1)
  clear lt_a r_a0 r_a1 r_a2 r_a3 r_a4 r_a5 r_a6 lt_b r_b0 r_b1 r_b2 r_b3 r_b4 r_b5 r_b6 r_b7 r_b8 lt_r r_r0 r_r1 r_r2 r_r3 r_r4 r_r5 r_r6 z_r0 z_r1 z_r2 z_r3 z_r4 z_r5 z_r6
  clear HP_0 HQ_0 Ha_0 Hb_0 Hr_0
  clear cc
  have lt_a := Ha_1.out.lt
  have r_a0 : v1.cell? ⟨w.heap.size, 0, none⟩ = some (.int .i64 i0) := Ha_1.out.cell 0
  have r_a1 : v1.cell? ⟨w.heap.size, 1, none⟩ = some (.int .i64 t0) := Ha_1.out.cell 1
  have r_a2 : v1.cell? ⟨w.heap.size, 2, none⟩ = some (.slice A n c) := Ha_1.out.cell 2
  have r_a3 : v1.cell? ⟨w.heap.size, 3, none⟩ = some (.slice B m d) := Ha_1.out.cell 3
  have r_a4 : v1.cell? ⟨w.heap.size, 4, none⟩ = some (.int .i64 l0) := Ha_1.out.cell 4
  have r_a5 : v1.cell? ⟨w.heap.size, 5, none⟩ = some (.int .i64 l1) := Ha_1.out.cell 5
  have r_a6 : v1.cell? ⟨w.heap.size, 6, none⟩ = some (.int .i64 l2) := Ha_1.out.cell 6
  have lt_b := Hb_1.out.lt
  have r_b0 : v1.cell? ⟨g1, 0, none⟩ = some (.int .i64 ex) := Hb_1.out.cell 0
  have r_b1 : v1.cell? ⟨g1, 1, none⟩ = some (.int .i64 et) := Hb_1.out.cell 1
  have r_b2 : v1.cell? ⟨g1, 2, none⟩ = some (.int .i64 ec) := Hb_1.out.cell 2
  have r_b3 : v1.cell? ⟨g1, 3, none⟩ = some (.int .i64 es) := Hb_1.out.cell 3
  have r_b4 : v1.cell? ⟨g1, 4, none⟩ = some (.int .i64 4) := Hb_1.out.cell 4
  have r_b5 : v1.cell? ⟨g1, 5, none⟩ = some (.int .i64 ea) := Hb_1.out.cell 5
  have r_b6 : v1.cell? ⟨g1, 6, none⟩ = some (.int .i64 eb) := Hb_1.out.cell 6
  have r_b7 : v1.cell? ⟨g1, 7, none⟩ = some (.int .i64 eg) := Hb_1.out.cell 7
  have r_b8 : v1.cell? ⟨g1, 8, none⟩ = some (.int .i64 eh) := Hb_1.out.cell 8
  have lt_r := Hr_1.out.lt
  have r_r0 : v1.cell? ⟨g2, 0, none⟩ = some (.int .i64 0) := Hr_1.out.cell 0
  have r_r1 : v1.cell? ⟨g2, 1, none⟩ = some (.int .i64 0) := Hr_1.out.cell 1
  have r_r2 : v1.cell? ⟨g2, 2, none⟩ = some (.slice none 0 0) := Hr_1.out.cell 2
  have r_r3 : v1.cell? ⟨g2, 3, none⟩ = some (.slice none 0 0) := Hr_1.out.cell 3
  have r_r4 : v1.cell? ⟨g2, 4, none⟩ = some (.int .i64 0) := Hr_1.out.cell 4
  have r_r5 : v1.cell? ⟨g2, 5, none⟩ = some (.int .i64 0) := Hr_1.out.cell 5
  have r_r6 : v1.cell? ⟨g2, 6, none⟩ = some (.int .i64 0) := Hr_1.out.cell 6
  have z_r0 := Hr_1.out.frozen 0
  have z_r1 := Hr_1.out.frozen 1
  have z_r2 := Hr_1.out.frozen 2
  have z_r3 := Hr_1.out.frozen 3
  have z_r4 := Hr_1.out.frozen 4
  have z_r5 := Hr_1.out.frozen 5
  have z_r6 := Hr_1.out.frozen 6
  go_wp2_with fail
  refine (l17Copy_any A n c B m d i0 t0 l0 l1 l2 pl ql _ HP_1.out HQ_1.out hL.out hR.out (by omega) (by omega) HA.out HB.out).mono ?_
  rintro e v2 ⟨A5, c5, B5, d5, rfl, R5, R6, hap, b2⟩
  have HAP := Lib.hid hap
  have Lx := Lib.hid R5.lt
  have Ly := Lib.hid R6.lt
  clear hap
  have f2 := bthen f1 b2
  have z2 := b2.size
  have HP_2 := Lib.hid (HP_1.out.below b2)
  have HQ_2 := Lib.hid (HQ_1.out.below b2)
  have Ha_2 := Lib.hid (Ha_1.out.below b2)
  have Hb_2 := Lib.hid (Hb_1.out.below b2)
  have Hr_2 := Lib.hid (Hr_1.out.below b2)
  clear lt_a r_a0 r_a1 r_a2 r_a3 r_a4 r_a5 r_a6 lt_b r_b0 r_b1 r_b2 r_b3 r_b4 r_b5 r_b6 r_b7 r_b8 lt_r r_r0 r_r1 r_r2 r_r3 r_r4 r_r5 r_r6 z_r0 z_r1 z_r2 z_r3 z_r4 z_r5 z_r6
  clear HP_1 HQ_1 Ha_1 Hb_1 Hr_1
  have Hx_2 := Lib.hid R5
  clear R5
  have Hy_2 := Lib.hid R6
  clear R6
  have lt_a := Ha_2.out.lt
  have r_a0 : v2.cell? ⟨w.heap.size, 0, none⟩ = some (.int .i64 i0) := Ha_2.out.cell 0
  have r_a1 : v2.cell? ⟨w.heap.size, 1, none⟩ = some (.int .i64 t0) := Ha_2.out.cell 1
  have r_a2 : v2.cell? ⟨w.heap.size, 2, none⟩ = some (.slice A n c) := Ha_2.out.cell 2
  have r_a3 : v2.cell? ⟨w.heap.size, 3, none⟩ = some (.slice B m d) := Ha_2.out.cell 3
  have r_a4 : v2.cell? ⟨w.heap.size, 4, none⟩ = some (.int .i64 l0) := Ha_2.out.cell 4
  have r_a5 : v2.cell? ⟨w.heap.size, 5, none⟩ = some (.int .i64 l1) := Ha_2.out.cell 5
  have r_a6 : v2.cell? ⟨w.heap.size, 6, none⟩ = some (.int .i64 l2) := Ha_2.out.cell 6
  have lt_b := Hb_2.out.lt
  have r_b0 : v2.cell? ⟨g1, 0, none⟩ = some (.int .i64 ex) := Hb_2.out.cell 0
  have r_b1 : v2.cell? ⟨g1, 1, none⟩ = some (.int .i64 et) := Hb_2.out.cell 1
  have r_b2 : v2.cell? ⟨g1, 2, none⟩ = some (.int .i64 ec) := Hb_2.out.cell 2
  have r_b3 : v2.cell? ⟨g1, 3, none⟩ = some (.int .i64 es) := Hb_2.out.cell 3
  have r_b4 : v2.cell? ⟨g1, 4, none⟩ = some (.int .i64 4) := Hb_2.out.cell 4
  have r_b5 : v2.cell? ⟨g1, 5, none⟩ = some (.int .i64 ea) := Hb_2.out.cell 5
  have r_b6 : v2.cell? ⟨g1, 6, none⟩ = some (.int .i64 eb) := Hb_2.out.cell 6
  have r_b7 : v2.cell? ⟨g1, 7, none⟩ = some (.int .i64 eg) := Hb_2.out.cell 7
  have r_b8 : v2.cell? ⟨g1, 8, none⟩ = some (.int .i64 eh) := Hb_2.out.cell 8
  have lt_r := Hr_2.out.lt
  have r_r0 : v2.cell? ⟨g2, 0, none⟩ = some (.int .i64 0) := Hr_2.out.cell 0
  have r_r1 : v2.cell? ⟨g2, 1, none⟩ = some (.int .i64 0) := Hr_2.out.cell 1
  have r_r2 : v2.cell? ⟨g2, 2, none⟩ = some (.slice none 0 0) := Hr_2.out.cell 2
  have r_r3 : v2.cell? ⟨g2, 3, none⟩ = some (.slice none 0 0) := Hr_2.out.cell 3
  have r_r4 : v2.cell? ⟨g2, 4, none⟩ = some (.int .i64 0) := Hr_2.out.cell 4
  have r_r5 : v2.cell? ⟨g2, 5, none⟩ = some (.int .i64 0) := Hr_2.out.cell 5
  have r_r6 : v2.cell? ⟨g2, 6, none⟩ = some (.int .i64 0) := Hr_2.out.cell 6
  have z_r0 := Hr_2.out.frozen 0
  have z_r1 := Hr_2.out.frozen 1
  have z_r2 := Hr_2.out.frozen 2
  have z_r3 := Hr_2.out.frozen 3
  have z_r4 := Hr_2.out.frozen 4
  have z_r5 := Hr_2.out.frozen 5
  have z_r6 := Hr_2.out.frozen 6
  go_wp2_with fail
  refine calls_named ?_
  rintro v3 hv3
  have f3 : Below w.heap.size w v3 := by rw [hv3]; (repeat' (first | (with_reducible exact Below.refl _ _) | (with_reducible assumption) | (with_reducible refine Below.alloc ?_ ?_ _) | (with_reducible refine Below.drew ?_) | (with_reducible refine Below.setCell ?_ ?_ _) | (with_reducible refine bstep (by assumption) ?_ ?_) | (with_reducible exact Nat.le_refl _) | omega | (simp [*]; done) | (simp [*]; omega)))
  have z3 : v2.heap.size + 1 ≤ v3.heap.size := by rw [hv3]; simp [size_set]
  have HP_3 : Hid (Sl v3 2 A n (PR pl)) := by rw [hv3]; exact (HP_2.out).alloc _
  have HQ_3 : Hid (Sl v3 5 B m (JB ql)) := by rw [hv3]; exact (HQ_2.out).alloc _
  have Ha_3 : Hid (Blk v3 w.heap.size 37 #[.int .i64 i0, .int .i64 t0, .slice A n c, .slice B m d, .int .i64 l0, .int .i64 l1, .int .i64 l2]) := by rw [hv3]; exact (Ha_2.out).alloc _
  have Hb_3 : Hid (Blk v3 g1 43 #[.int .i64 ex, .int .i64 et, .int .i64 ec, .int .i64 es, .int .i64 4, .int .i64 ea, .int .i64 eb, .int .i64 eg, .int .i64 eh]) := by rw [hv3]; exact (Hb_2.out).alloc _
  have Hr_3 : Hid (Blk v3 g2 37 #[.int .i64 0, .int .i64 0, .slice none 0 0, .slice none 0 0, .int .i64 0, .int .i64 0, .int .i64 0]) := by rw [hv3]; exact (Hr_2.out).alloc _
  have Hx_3 : Hid (Row v3 v1.heap.size 106 2 A5 n c5 (PR pl)) := by rw [hv3]; exact (Hx_2.out).alloc _
  have Hy_3 : Hid (Row v3 v1.heap.size 71 5 B5 m d5 (JB ql)) := by rw [hv3]; exact (Hy_2.out).alloc _
  have Hz_3 : Hid (Blk v3 v2.heap.size 37 #[.int .i64 i0, .int .i64 t0, .slice A5 n c5, .slice B5 m d5, .int .i64 l0, .int .i64 l1, .int .i64 l2]) := by rw [hv3]; exact (Blk.new_at _ _ _ _ (by simp [size_set]))
  clear lt_a r_a0 r_a1 r_a2 r_a3 r_a4 r_a5 r_a6 lt_b r_b0 r_b1 r_b2 r_b3 r_b4 r_b5 r_b6 r_b7 r_b8 lt_r r_r0 r_r1 r_r2 r_r3 r_r4 r_r5 r_r6 z_r0 z_r1 z_r2 z_r3 z_r4 z_r5 z_r6
  clear hv3 HP_2 HQ_2 Ha_2 Hb_2 Hr_2 Hx_2 Hy_2
  have lt_a := Ha_3.out.lt
  have r_a0 : v3.cell? ⟨w.heap.size, 0, none⟩ = some (.int .i64 i0) := Ha_3.out.cell 0
  have r_a1 : v3.cell? ⟨w.heap.size, 1, none⟩ = some (.int .i64 t0) := Ha_3.out.cell 1
  have r_a2 : v3.cell? ⟨w.heap.size, 2, none⟩ = some (.slice A n c) := Ha_3.out.cell 2
  have r_a3 : v3.cell? ⟨w.heap.size, 3, none⟩ = some (.slice B m d) := Ha_3.out.cell 3
  have r_a4 : v3.cell? ⟨w.heap.size, 4, none⟩ = some (.int .i64 l0) := Ha_3.out.cell 4
  have r_a5 : v3.cell? ⟨w.heap.size, 5, none⟩ = some (.int .i64 l1) := Ha_3.out.cell 5
  have r_a6 : v3.cell? ⟨w.heap.size, 6, none⟩ = some (.int .i64 l2) := Ha_3.out.cell 6
  have lt_b := Hb_3.out.lt
  have r_b0 : v3.cell? ⟨g1, 0, none⟩ = some (.int .i64 ex) := Hb_3.out.cell 0
  have r_b1 : v3.cell? ⟨g1, 1, none⟩ = some (.int .i64 et) := Hb_3.out.cell 1
  have r_b2 : v3.cell? ⟨g1, 2, none⟩ = some (.int .i64 ec) := Hb_3.out.cell 2
  have r_b3 : v3.cell? ⟨g1, 3, none⟩ = some (.int .i64 es) := Hb_3.out.cell 3
  have r_b4 : v3.cell? ⟨g1, 4, none⟩ = some (.int .i64 4) := Hb_3.out.cell 4
  have r_b5 : v3.cell? ⟨g1, 5, none⟩ = some (.int .i64 ea) := Hb_3.out.cell 5
  have r_b6 : v3.cell? ⟨g1, 6, none⟩ = some (.int .i64 eb) := Hb_3.out.cell 6
  have r_b7 : v3.cell? ⟨g1, 7, none⟩ = some (.int .i64 eg) := Hb_3.out.cell 7
  have r_b8 : v3.cell? ⟨g1, 8, none⟩ = some (.int .i64 eh) := Hb_3.out.cell 8
  have lt_r := Hr_3.out.lt
  have r_r0 : v3.cell? ⟨g2, 0, none⟩ = some (.int .i64 0) := Hr_3.out.cell 0
  have r_r1 : v3.cell? ⟨g2, 1, none⟩ = some (.int .i64 0) := Hr_3.out.cell 1
  have r_r2 : v3.cell? ⟨g2, 2, none⟩ = some (.slice none 0 0) := Hr_3.out.cell 2
  have r_r3 : v3.cell? ⟨g2, 3, none⟩ = some (.slice none 0 0) := Hr_3.out.cell 3
  have r_r4 : v3.cell? ⟨g2, 4, none⟩ = some (.int .i64 0) := Hr_3.out.cell 4
  have r_r5 : v3.cell? ⟨g2, 5, none⟩ = some (.int .i64 0) := Hr_3.out.cell 5
  have r_r6 : v3.cell? ⟨g2, 6, none⟩ = some (.int .i64 0) := Hr_3.out.cell 6
  have z_r0 := Hr_3.out.frozen 0
  have z_r1 := Hr_3.out.frozen 1
  have z_r2 := Hr_3.out.frozen 2
  have z_r3 := Hr_3.out.frozen 3
  have z_r4 := Hr_3.out.frozen 4
  have z_r5 := Hr_3.out.frozen 5
  have z_r6 := Hr_3.out.frozen 6
  have lt_z := Hz_3.out.lt
  have r_z0 : v3.cell? ⟨v2.heap.size, 0, none⟩ = some (.int .i64 i0) := Hz_3.out.cell 0
  have r_z1 : v3.cell? ⟨v2.heap.size, 1, none⟩ = some (.int .i64 t0) := Hz_3.out.cell 1
  have r_z2 : v3.cell? ⟨v2.heap.size, 2, none⟩ = some (.slice A5 n c5) := Hz_3.out.cell 2
  have r_z3 : v3.cell? ⟨v2.heap.size, 3, none⟩ = some (.slice B5 m d5) := Hz_3.out.cell 3
  have r_z4 : v3.cell? ⟨v2.heap.size, 4, none⟩ = some (.int .i64 l0) := Hz_3.out.cell 4
  have r_z5 : v3.cell? ⟨v2.heap.size, 5, none⟩ = some (.int .i64 l1) := Hz_3.out.cell 5
  have r_z6 : v3.cell? ⟨v2.heap.size, 6, none⟩ = some (.int .i64 l2) := Hz_3.out.cell 6
  have z_z0 := Hz_3.out.frozen 0
  have z_z1 := Hz_3.out.frozen 1
  have z_z2 := Hz_3.out.frozen 2
  have z_z3 := Hz_3.out.frozen 3
  have z_z4 := Hz_3.out.frozen 4
  have z_z5 := Hz_3.out.frozen 5
  have z_z6 := Hz_3.out.frozen 6
  have cc := specEffectOf_any A n c B m d i0 t0 l0 l1 l2 pl ql ex et ec es 4 ea eb eg eh v3 HP_3.out HQ_3.out hL.out hR.out hn hm HA.out HB.out _ hx.out
  refine (cc).mono ?_
  rintro e v4 ⟨rfl, b4⟩
  have f4 := bthen f3 b4
  have z4 := b4.size
  have HP_4 := Lib.hid (HP_3.out.below b4)
  have HQ_4 := Lib.hid (HQ_3.out.below b4)
  have Ha_4 := Lib.hid (Ha_3.out.below b4)
  have Hb_4 := Lib.hid (Hb_3.out.below b4)
  have Hr_4 := Lib.hid (Hr_3.out.below b4)
  have Hx_4 := Lib.hid (Hx_3.out.below b4)
  have Hy_4 := Lib.hid (Hy_3.out.below b4)
  have Hz_4 := Lib.hid (Hz_3.out.below b4)
  clear lt_a r_a0 r_a1 r_a2 r_a3 r_a4 r_a5 r_a6 lt_b r_b0 r_b1 r_b2 r_b3 r_b4 r_b5 r_b6 r_b7 r_b8 lt_r r_r0 r_r1 r_r2 r_r3 r_r4 r_r5 r_r6 z_r0 z_r1 z_r2 z_r3 z_r4 z_r5 z_r6 lt_z r_z0 r_z1 r_z2 r_z3 r_z4 r_z5 r_z6 z_z0 z_z1 z_z2 z_z3 z_z4 z_z5 z_z6
  clear HP_3 HQ_3 Ha_3 Hb_3 Hr_3 Hx_3 Hy_3 Hz_3
  clear cc
  have lt_a := Ha_4.out.lt
  have r_a0 : v4.cell? ⟨w.heap.size, 0, none⟩ = some (.int .i64 i0) := Ha_4.out.cell 0
  have r_a1 : v4.cell? ⟨w.heap.size, 1, none⟩ = some (.int .i64 t0) := Ha_4.out.cell 1
  have r_a2 : v4.cell? ⟨w.heap.size, 2, none⟩ = some (.slice A n c) := Ha_4.out.cell 2
  have r_a3 : v4.cell? ⟨w.heap.size, 3, none⟩ = some (.slice B m d) := Ha_4.out.cell 3
  have r_a4 : v4.cell? ⟨w.heap.size, 4, none⟩ = some (.int .i64 l0) := Ha_4.out.cell 4
  have r_a5 : v4.cell? ⟨w.heap.size, 5, none⟩ = some (.int .i64 l1) := Ha_4.out.cell 5
  have r_a6 : v4.cell? ⟨w.heap.size, 6, none⟩ = some (.int .i64 l2) := Ha_4.out.cell 6
  have lt_b := Hb_4.out.lt
  have r_b0 : v4.cell? ⟨g1, 0, none⟩ = some (.int .i64 ex) := Hb_4.out.cell 0
  have r_b1 : v4.cell? ⟨g1, 1, none⟩ = some (.int .i64 et) := Hb_4.out.cell 1
  have r_b2 : v4.cell? ⟨g1, 2, none⟩ = some (.int .i64 ec) := Hb_4.out.cell 2
  have r_b3 : v4.cell? ⟨g1, 3, none⟩ = some (.int .i64 es) := Hb_4.out.cell 3
  have r_b4 : v4.cell? ⟨g1, 4, none⟩ = some (.int .i64 4) := Hb_4.out.cell 4
  have r_b5 : v4.cell? ⟨g1, 5, none⟩ = some (.int .i64 ea) := Hb_4.out.cell 5
  have r_b6 : v4.cell? ⟨g1, 6, none⟩ = some (.int .i64 eb) := Hb_4.out.cell 6
  have r_b7 : v4.cell? ⟨g1, 7, none⟩ = some (.int .i64 eg) := Hb_4.out.cell 7
  have r_b8 : v4.cell? ⟨g1, 8, none⟩ = some (.int .i64 eh) := Hb_4.out.cell 8
  have lt_r := Hr_4.out.lt
  have r_r0 : v4.cell? ⟨g2, 0, none⟩ = some (.int .i64 0) := Hr_4.out.cell 0
  have r_r1 : v4.cell? ⟨g2, 1, none⟩ = some (.int .i64 0) := Hr_4.out.cell 1
  have r_r2 : v4.cell? ⟨g2, 2, none⟩ = some (.slice none 0 0) := Hr_4.out.cell 2
  have r_r3 : v4.cell? ⟨g2, 3, none⟩ = some (.slice none 0 0) := Hr_4.out.cell 3
  have r_r4 : v4.cell? ⟨g2, 4, none⟩ = some (.int .i64 0) := Hr_4.out.cell 4
  have r_r5 : v4.cell? ⟨g2, 5, none⟩ = some (.int .i64 0) := Hr_4.out.cell 5
  have r_r6 : v4.cell? ⟨g2, 6, none⟩ = some (.int .i64 0) := Hr_4.out.cell 6
  have z_r0 := Hr_4.out.frozen 0
  have z_r1 := Hr_4.out.frozen 1
  have z_r2 := Hr_4.out.frozen 2
  have z_r3 := Hr_4.out.frozen 3
  have z_r4 := Hr_4.out.frozen 4
  have z_r5 := Hr_4.out.frozen 5
  have z_r6 := Hr_4.out.frozen 6
  have lt_z := Hz_4.out.lt
  have r_z0 : v4.cell? ⟨v2.heap.size, 0, none⟩ = some (.int .i64 i0) := Hz_4.out.cell 0
  have r_z1 : v4.cell? ⟨v2.heap.size, 1, none⟩ = some (.int .i64 t0) := Hz_4.out.cell 1
  have r_z2 : v4.cell? ⟨v2.heap.size, 2, none⟩ = some (.slice A5 n c5) := Hz_4.out.cell 2
  have r_z3 : v4.cell? ⟨v2.heap.size, 3, none⟩ = some (.slice B5 m d5) := Hz_4.out.cell 3
  have r_z4 : v4.cell? ⟨v2.heap.size, 4, none⟩ = some (.int .i64 l0) := Hz_4.out.cell 4
  have r_z5 : v4.cell? ⟨v2.heap.size, 5, none⟩ = some (.int .i64 l1) := Hz_4.out.cell 5
  have r_z6 : v4.cell? ⟨v2.heap.size, 6, none⟩ = some (.int .i64 l2) := Hz_4.out.cell 6
  have z_z0 := Hz_4.out.frozen 0
  have z_z1 := Hz_4.out.frozen 1
  have z_z2 := Hz_4.out.frozen 2
  have z_z3 := Hz_4.out.frozen 3
  have z_z4 := Hz_4.out.frozen 4
  have z_z5 := Hz_4.out.frozen 5
  have z_z6 := Hz_4.out.frozen 6
  go_wp2_with fail
  refine calls_named ?_
  rintro v5 hv5
  have f5 : Below w.heap.size w v5 := by rw [hv5]; (repeat' (first | (with_reducible exact Below.refl _ _) | (with_reducible assumption) | (with_reducible refine Below.alloc ?_ ?_ _) | (with_reducible refine Below.drew ?_) | (with_reducible refine Below.setCell ?_ ?_ _) | (with_reducible refine bstep (by assumption) ?_ ?_) | (with_reducible exact Nat.le_refl _) | omega | (simp [*]; done) | (simp [*]; omega)))
  have z5 : v4.heap.size + 0 ≤ v5.heap.size := by rw [hv5]; simp [size_set]
  have HP_5 : Hid (Sl v5 2 A n (PR pl)) := by rw [hv5]; exact ((HP_4.out).far (p := ⟨v2.heap.size, 0, none⟩) (fun hn a ha => by have := HP_lt.out hn a ha; show a.block ≠ v2.heap.size; omega) _).far (p := ⟨v2.heap.size, 1, none⟩) (fun hn a ha => by have := HP_lt.out hn a ha; show a.block ≠ v2.heap.size; omega) _
  have HQ_5 : Hid (Sl v5 5 B m (JB ql)) := by rw [hv5]; exact ((HQ_4.out).far (p := ⟨v2.heap.size, 0, none⟩) (fun hn a ha => by have := HQ_lt.out hn a ha; show a.block ≠ v2.heap.size; omega) _).far (p := ⟨v2.heap.size, 1, none⟩) (fun hn a ha => by have := HQ_lt.out hn a ha; show a.block ≠ v2.heap.size; omega) _
  have Ha_5 : Hid (Blk v5 w.heap.size 37 #[.int .i64 i0, .int .i64 t0, .slice A n c, .slice B m d, .int .i64 l0, .int .i64 l1, .int .i64 l2]) := by rw [hv5]; exact ((Ha_4.out).far (p := ⟨v2.heap.size, 0, none⟩) (show w.heap.size ≠ v2.heap.size by omega) _).far (p := ⟨v2.heap.size, 1, none⟩) (show w.heap.size ≠ v2.heap.size by omega) _
  have Hb_5 : Hid (Blk v5 g1 43 #[.int .i64 ex, .int .i64 et, .int .i64 ec, .int .i64 es, .int .i64 4, .int .i64 ea, .int .i64 eb, .int .i64 eg, .int .i64 eh]) := by rw [hv5]; exact ((Hb_4.out).far (p := ⟨v2.heap.size, 0, none⟩) (show g1 ≠ v2.heap.size by omega) _).far (p := ⟨v2.heap.size, 1, none⟩) (show g1 ≠ v2.heap.size by omega) _
  have Hr_5 : Hid (Blk v5 g2 37 #[.int .i64 0, .int .i64 0, .slice none 0 0, .slice none 0 0, .int .i64 0, .int .i64 0, .int .i64 0]) := by rw [hv5]; exact ((Hr_4.out).far (p := ⟨v2.heap.size, 0, none⟩) (show g2 ≠ v2.heap.size by omega) _).far (p := ⟨v2.heap.size, 1, none⟩) (show g2 ≠ v2.heap.size by omega) _
  have Hx_5 : Hid (Row v5 v1.heap.size 106 2 A5 n c5 (PR pl)) := by rw [hv5]; exact ((Hx_4.out).far (p := ⟨v2.heap.size, 0, none⟩) (fun a ha => by have := Lx.out a ha; show a.block ≠ v2.heap.size; omega) _).far (p := ⟨v2.heap.size, 1, none⟩) (fun a ha => by have := Lx.out a ha; show a.block ≠ v2.heap.size; omega) _
  have Hy_5 : Hid (Row v5 v1.heap.size 71 5 B5 m d5 (JB ql)) := by rw [hv5]; exact ((Hy_4.out).far (p := ⟨v2.heap.size, 0, none⟩) (fun a ha => by have := Ly.out a ha; show a.block ≠ v2.heap.size; omega) _).far (p := ⟨v2.heap.size, 1, none⟩) (fun a ha => by have := Ly.out a ha; show a.block ≠ v2.heap.size; omega) _
  have Hz_5 : Hid (Blk v5 v2.heap.size 37 #[.int .i64 ex, .int .i64 et, .slice A5 n c5, .slice B5 m d5, .int .i64 l0, .int .i64 l1, .int .i64 l2]) := by rw [hv5]; exact ((Hz_4.out).set_ 0 _).set_ 1 _
  clear lt_a r_a0 r_a1 r_a2 r_a3 r_a4 r_a5 r_a6 lt_b r_b0 r_b1 r_b2 r_b3 r_b4 r_b5 r_b6 r_b7 r_b8 lt_r r_r0 r_r1 r_r2 r_r3 r_r4 r_r5 r_r6 z_r0 z_r1 z_r2 z_r3 z_r4 z_r5 z_r6 lt_z r_z0 r_z1 r_z2 r_z3 r_z4 r_z5 r_z6 z_z0 z_z1 z_z2 z_z3 z_z4 z_z5 z_z6
  clear hv5 HP_4 HQ_4 Ha_4 Hb_4 Hr_4 Hx_4 Hy_4 Hz_4
  have lt_a := Ha_5.out.lt
  have r_a0 : v5.cell? ⟨w.heap.size, 0, none⟩ = some (.int .i64 i0) := Ha_5.out.cell 0
  have r_a1 : v5.cell? ⟨w.heap.size, 1, none⟩ = some (.int .i64 t0) := Ha_5.out.cell 1
  have r_a2 : v5.cell? ⟨w.heap.size, 2, none⟩ = some (.slice A n c) := Ha_5.out.cell 2
  have r_a3 : v5.cell? ⟨w.heap.size, 3, none⟩ = some (.slice B m d) := Ha_5.out.cell 3
  have r_a4 : v5.cell? ⟨w.heap.size, 4, none⟩ = some (.int .i64 l0) := Ha_5.out.cell 4
  have r_a5 : v5.cell? ⟨w.heap.size, 5, none⟩ = some (.int .i64 l1) := Ha_5.out.cell 5
  have r_a6 : v5.cell? ⟨w.heap.size, 6, none⟩ = some (.int .i64 l2) := Ha_5.out.cell 6
  have lt_b := Hb_5.out.lt
  have r_b0 : v5.cell? ⟨g1, 0, none⟩ = some (.int .i64 ex) := Hb_5.out.cell 0
  have r_b1 : v5.cell? ⟨g1, 1, none⟩ = some (.int .i64 et) := Hb_5.out.cell 1
  have r_b2 : v5.cell? ⟨g1, 2, none⟩ = some (.int .i64 ec) := Hb_5.out.cell 2
  have r_b3 : v5.cell? ⟨g1, 3, none⟩ = some (.int .i64 es) := Hb_5.out.cell 3
  have r_b4 : v5.cell? ⟨g1, 4, none⟩ = some (.int .i64 4) := Hb_5.out.cell 4
  have r_b5 : v5.cell? ⟨g1, 5, none⟩ = some (.int .i64 ea) := Hb_5.out.cell 5
  have r_b6 : v5.cell? ⟨g1, 6, none⟩ = some (.int .i64 eb) := Hb_5.out.cell 6
  have r_b7 : v5.cell? ⟨g1, 7, none⟩ = some (.int .i64 eg) := Hb_5.out.cell 7
  have r_b8 : v5.cell? ⟨g1, 8, none⟩ = some (.int .i64 eh) := Hb_5.out.cell 8
  have lt_r := Hr_5.out.lt
  have r_r0 : v5.cell? ⟨g2, 0, none⟩ = some (.int .i64 0) := Hr_5.out.cell 0
  have r_r1 : v5.cell? ⟨g2, 1, none⟩ = some (.int .i64 0) := Hr_5.out.cell 1
  have r_r2 : v5.cell? ⟨g2, 2, none⟩ = some (.slice none 0 0) := Hr_5.out.cell 2
  have r_r3 : v5.cell? ⟨g2, 3, none⟩ = some (.slice none 0 0) := Hr_5.out.cell 3
  have r_r4 : v5.cell? ⟨g2, 4, none⟩ = some (.int .i64 0) := Hr_5.out.cell 4
  have r_r5 : v5.cell? ⟨g2, 5, none⟩ = some (.int .i64 0) := Hr_5.out.cell 5
  have r_r6 : v5.cell? ⟨g2, 6, none⟩ = some (.int .i64 0) := Hr_5.out.cell 6
  have z_r0 := Hr_5.out.frozen 0
  have z_r1 := Hr_5.out.frozen 1
  have z_r2 := Hr_5.out.frozen 2
  have z_r3 := Hr_5.out.frozen 3
  have z_r4 := Hr_5.out.frozen 4
  have z_r5 := Hr_5.out.frozen 5
  have z_r6 := Hr_5.out.frozen 6
  have lt_z := Hz_5.out.lt
  have r_z0 : v5.cell? ⟨v2.heap.size, 0, none⟩ = some (.int .i64 ex) := Hz_5.out.cell 0
  have r_z1 : v5.cell? ⟨v2.heap.size, 1, none⟩ = some (.int .i64 et) := Hz_5.out.cell 1
  have r_z2 : v5.cell? ⟨v2.heap.size, 2, none⟩ = some (.slice A5 n c5) := Hz_5.out.cell 2
  have r_z3 : v5.cell? ⟨v2.heap.size, 3, none⟩ = some (.slice B5 m d5) := Hz_5.out.cell 3
  have r_z4 : v5.cell? ⟨v2.heap.size, 4, none⟩ = some (.int .i64 l0) := Hz_5.out.cell 4
  have r_z5 : v5.cell? ⟨v2.heap.size, 5, none⟩ = some (.int .i64 l1) := Hz_5.out.cell 5
  have r_z6 : v5.cell? ⟨v2.heap.size, 6, none⟩ = some (.int .i64 l2) := Hz_5.out.cell 6
  have z_z0 := Hz_5.out.frozen 0
  have z_z1 := Hz_5.out.frozen 1
  have z_z2 := Hz_5.out.frozen 2
  have z_z3 := Hz_5.out.frozen 3
  have z_z4 := Hz_5.out.frozen 4
  have z_z5 := Hz_5.out.frozen 5
  have z_z6 := Hz_5.out.frozen 6
  have cc := specJobAt_any B m d ql ea v5 HQ_5.out hR.out hm
  rw [hj.out] at cc
  refine (cc).mono ?_
  rintro e v6 ⟨rfl, b6⟩
  have f6 := bthen f5 b6
  have z6 := b6.size
  have HP_6 := Lib.hid (HP_5.out.below b6)
  have HQ_6 := Lib.hid (HQ_5.out.below b6)
  have Ha_6 := Lib.hid (Ha_5.out.below b6)
  have Hb_6 := Lib.hid (Hb_5.out.below b6)
  have Hr_6 := Lib.hid (Hr_5.out.below b6)
  have Hx_6 := Lib.hid (Hx_5.out.below b6)
  have Hy_6 := Lib.hid (Hy_5.out.below b6)
  have Hz_6 := Lib.hid (Hz_5.out.below b6)
  clear lt_a r_a0 r_a1 r_a2 r_a3 r_a4 r_a5 r_a6 lt_b r_b0 r_b1 r_b2 r_b3 r_b4 r_b5 r_b6 r_b7 r_b8 lt_r r_r0 r_r1 r_r2 r_r3 r_r4 r_r5 r_r6 z_r0 z_r1 z_r2 z_r3 z_r4 z_r5 z_r6 lt_z r_z0 r_z1 r_z2 r_z3 r_z4 r_z5 r_z6 z_z0 z_z1 z_z2 z_z3 z_z4 z_z5 z_z6
  clear HP_5 HQ_5 Ha_5 Hb_5 Hr_5 Hx_5 Hy_5 Hz_5
  clear cc
  have lt_a := Ha_6.out.lt
  have r_a0 : v6.cell? ⟨w.heap.size, 0, none⟩ = some (.int .i64 i0) := Ha_6.out.cell 0
  have r_a1 : v6.cell? ⟨w.heap.size, 1, none⟩ = some (.int .i64 t0) := Ha_6.out.cell 1
  have r_a2 : v6.cell? ⟨w.heap.size, 2, none⟩ = some (.slice A n c) := Ha_6.out.cell 2
  have r_a3 : v6.cell? ⟨w.heap.size, 3, none⟩ = some (.slice B m d) := Ha_6.out.cell 3
  have r_a4 : v6.cell? ⟨w.heap.size, 4, none⟩ = some (.int .i64 l0) := Ha_6.out.cell 4
  have r_a5 : v6.cell? ⟨w.heap.size, 5, none⟩ = some (.int .i64 l1) := Ha_6.out.cell 5
  have r_a6 : v6.cell? ⟨w.heap.size, 6, none⟩ = some (.int .i64 l2) := Ha_6.out.cell 6
  have lt_b := Hb_6.out.lt
  have r_b0 : v6.cell? ⟨g1, 0, none⟩ = some (.int .i64 ex) := Hb_6.out.cell 0
  have r_b1 : v6.cell? ⟨g1, 1, none⟩ = some (.int .i64 et) := Hb_6.out.cell 1
  have r_b2 : v6.cell? ⟨g1, 2, none⟩ = some (.int .i64 ec) := Hb_6.out.cell 2
  have r_b3 : v6.cell? ⟨g1, 3, none⟩ = some (.int .i64 es) := Hb_6.out.cell 3
  have r_b4 : v6.cell? ⟨g1, 4, none⟩ = some (.int .i64 4) := Hb_6.out.cell 4
  have r_b5 : v6.cell? ⟨g1, 5, none⟩ = some (.int .i64 ea) := Hb_6.out.cell 5
  have r_b6 : v6.cell? ⟨g1, 6, none⟩ = some (.int .i64 eb) := Hb_6.out.cell 6
  have r_b7 : v6.cell? ⟨g1, 7, none⟩ = some (.int .i64 eg) := Hb_6.out.cell 7
  have r_b8 : v6.cell? ⟨g1, 8, none⟩ = some (.int .i64 eh) := Hb_6.out.cell 8
  have lt_r := Hr_6.out.lt
  have r_r0 : v6.cell? ⟨g2, 0, none⟩ = some (.int .i64 0) := Hr_6.out.cell 0
  have r_r1 : v6.cell? ⟨g2, 1, none⟩ = some (.int .i64 0) := Hr_6.out.cell 1
  have r_r2 : v6.cell? ⟨g2, 2, none⟩ = some (.slice none 0 0) := Hr_6.out.cell 2
  have r_r3 : v6.cell? ⟨g2, 3, none⟩ = some (.slice none 0 0) := Hr_6.out.cell 3
  have r_r4 : v6.cell? ⟨g2, 4, none⟩ = some (.int .i64 0) := Hr_6.out.cell 4
  have r_r5 : v6.cell? ⟨g2, 5, none⟩ = some (.int .i64 0) := Hr_6.out.cell 5
  have r_r6 : v6.cell? ⟨g2, 6, none⟩ = some (.int .i64 0) := Hr_6.out.cell 6
  have z_r0 := Hr_6.out.frozen 0
  have z_r1 := Hr_6.out.frozen 1
  have z_r2 := Hr_6.out.frozen 2
  have z_r3 := Hr_6.out.frozen 3
  have z_r4 := Hr_6.out.frozen 4
  have z_r5 := Hr_6.out.frozen 5
  have z_r6 := Hr_6.out.frozen 6
  have lt_z := Hz_6.out.lt
  have r_z0 : v6.cell? ⟨v2.heap.size, 0, none⟩ = some (.int .i64 ex) := Hz_6.out.cell 0
  have r_z1 : v6.cell? ⟨v2.heap.size, 1, none⟩ = some (.int .i64 et) := Hz_6.out.cell 1
  have r_z2 : v6.cell? ⟨v2.heap.size, 2, none⟩ = some (.slice A5 n c5) := Hz_6.out.cell 2
  have r_z3 : v6.cell? ⟨v2.heap.size, 3, none⟩ = some (.slice B5 m d5) := Hz_6.out.cell 3
  have r_z4 : v6.cell? ⟨v2.heap.size, 4, none⟩ = some (.int .i64 l0) := Hz_6.out.cell 4
  have r_z5 : v6.cell? ⟨v2.heap.size, 5, none⟩ = some (.int .i64 l1) := Hz_6.out.cell 5
  have r_z6 : v6.cell? ⟨v2.heap.size, 6, none⟩ = some (.int .i64 l2) := Hz_6.out.cell 6
  have z_z0 := Hz_6.out.frozen 0
  have z_z1 := Hz_6.out.frozen 1
  have z_z2 := Hz_6.out.frozen 2
  have z_z3 := Hz_6.out.frozen 3
  have z_z4 := Hz_6.out.frozen 4
  have z_z5 := Hz_6.out.frozen 5
  have z_z6 := Hz_6.out.frozen 6
  go_wp2_with fail
  refine calls_named ?_
  rintro v7 hv7
  have f7 : Below w.heap.size w v7 := by rw [hv7]; (repeat' (first | (with_reducible exact Below.refl _ _) | (with_reducible assumption) | (with_reducible refine Below.alloc ?_ ?_ _) | (with_reducible refine Below.drew ?_) | (with_reducible refine Below.setCell ?_ ?_ _) | (with_reducible refine bstep (by assumption) ?_ ?_) | (with_reducible exact Nat.le_refl _) | omega | (simp [*]; done) | (simp [*]; omega)))
  have z7 : v6.heap.size + 1 ≤ v7.heap.size := by rw [hv7]; simp [size_set]
  have HP_7 : Hid (Sl v7 2 A n (PR pl)) := by rw [hv7]; exact (HP_6.out).alloc _
  have HQ_7 : Hid (Sl v7 5 B m (JB ql)) := by rw [hv7]; exact (HQ_6.out).alloc _
  have Ha_7 : Hid (Blk v7 w.heap.size 37 #[.int .i64 i0, .int .i64 t0, .slice A n c, .slice B m d, .int .i64 l0, .int .i64 l1, .int .i64 l2]) := by rw [hv7]; exact (Ha_6.out).alloc _
  have Hb_7 : Hid (Blk v7 g1 43 #[.int .i64 ex, .int .i64 et, .int .i64 ec, .int .i64 es, .int .i64 4, .int .i64 ea, .int .i64 eb, .int .i64 eg, .int .i64 eh]) := by rw [hv7]; exact (Hb_6.out).alloc _
  have Hr_7 : Hid (Blk v7 g2 37 #[.int .i64 0, .int .i64 0, .slice none 0 0, .slice none 0 0, .int .i64 0, .int .i64 0, .int .i64 0]) := by rw [hv7]; exact (Hr_6.out).alloc _
  have Hx_7 : Hid (Row v7 v1.heap.size 106 2 A5 n c5 (PR pl)) := by rw [hv7]; exact (Hx_6.out).alloc _
  have Hy_7 : Hid (Row v7 v1.heap.size 71 5 B5 m d5 (JB ql)) := by rw [hv7]; exact (Hy_6.out).alloc _
  have Hz_7 : Hid (Blk v7 v2.heap.size 37 #[.int .i64 ex, .int .i64 et, .slice A5 n c5, .slice B5 m d5, .int .i64 l0, .int .i64 l1, .int .i64 l2]) := by rw [hv7]; exact (Hz_6.out).alloc _
  have Hj_7 : Hid (Blk v7 v6.heap.size 71 #[.int .i64 ji, .int .i64 jd, .int .i64 jk, .int .i64 jv, .int .i64 jf]) := by rw [hv7]; exact (Blk.new_at _ _ _ _ (by simp [size_set]))
  clear lt_a r_a0 r_a1 r_a2 r_a3 r_a4 r_a5 r_a6 lt_b r_b0 r_b1 r_b2 r_b3 r_b4 r_b5 r_b6 r_b7 r_b8 lt_r r_r0 r_r1 r_r2 r_r3 r_r4 r_r5 r_r6 z_r0 z_r1 z_r2 z_r3 z_r4 z_r5 z_r6 lt_z r_z0 r_z1 r_z2 r_z3 r_z4 r_z5 r_z6 z_z0 z_z1 z_z2 z_z3 z_z4 z_z5 z_z6
  clear hv7 HP_6 HQ_6 Ha_6 Hb_6 Hr_6 Hx_6 Hy_6 Hz_6
  have lt_a := Ha_7.out.lt
  have r_a0 : v7.cell? ⟨w.heap.size, 0, none⟩ = some (.int .i64 i0) := Ha_7.out.cell 0
  have r_a1 : v7.cell? ⟨w.heap.size, 1, none⟩ = some (.int .i64 t0) := Ha_7.out.cell 1
  have r_a2 : v7.cell? ⟨w.heap.size, 2, none⟩ = some (.slice A n c) := Ha_7.out.cell 2
  have r_a3 : v7.cell? ⟨w.heap.size, 3, none⟩ = some (.slice B m d) := Ha_7.out.cell 3
  have r_a4 : v7.cell? ⟨w.heap.size, 4, none⟩ = some (.int .i64 l0) := Ha_7.out.cell 4
  have r_a5 : v7.cell? ⟨w.heap.size, 5, none⟩ = some (.int .i64 l1) := Ha_7.out.cell 5
  have r_a6 : v7.cell? ⟨w.heap.size, 6, none⟩ = some (.int .i64 l2) := Ha_7.out.cell 6
  have lt_b := Hb_7.out.lt
  have r_b0 : v7.cell? ⟨g1, 0, none⟩ = some (.int .i64 ex) := Hb_7.out.cell 0
  have r_b1 : v7.cell? ⟨g1, 1, none⟩ = some (.int .i64 et) := Hb_7.out.cell 1
  have r_b2 : v7.cell? ⟨g1, 2, none⟩ = some (.int .i64 ec) := Hb_7.out.cell 2
  have r_b3 : v7.cell? ⟨g1, 3, none⟩ = some (.int .i64 es) := Hb_7.out.cell 3
  have r_b4 : v7.cell? ⟨g1, 4, none⟩ = some (.int .i64 4) := Hb_7.out.cell 4
  have r_b5 : v7.cell? ⟨g1, 5, none⟩ = some (.int .i64 ea) := Hb_7.out.cell 5
  have r_b6 : v7.cell? ⟨g1, 6, none⟩ = some (.int .i64 eb) := Hb_7.out.cell 6
  have r_b7 : v7.cell? ⟨g1, 7, none⟩ = some (.int .i64 eg) := Hb_7.out.cell 7
  have r_b8 : v7.cell? ⟨g1, 8, none⟩ = some (.int .i64 eh) := Hb_7.out.cell 8
  have lt_r := Hr_7.out.lt
  have r_r0 : v7.cell? ⟨g2, 0, none⟩ = some (.int .i64 0) := Hr_7.out.cell 0
  have r_r1 : v7.cell? ⟨g2, 1, none⟩ = some (.int .i64 0) := Hr_7.out.cell 1
  have r_r2 : v7.cell? ⟨g2, 2, none⟩ = some (.slice none 0 0) := Hr_7.out.cell 2
  have r_r3 : v7.cell? ⟨g2, 3, none⟩ = some (.slice none 0 0) := Hr_7.out.cell 3
  have r_r4 : v7.cell? ⟨g2, 4, none⟩ = some (.int .i64 0) := Hr_7.out.cell 4
  have r_r5 : v7.cell? ⟨g2, 5, none⟩ = some (.int .i64 0) := Hr_7.out.cell 5
  have r_r6 : v7.cell? ⟨g2, 6, none⟩ = some (.int .i64 0) := Hr_7.out.cell 6
  have z_r0 := Hr_7.out.frozen 0
  have z_r1 := Hr_7.out.frozen 1
  have z_r2 := Hr_7.out.frozen 2
  have z_r3 := Hr_7.out.frozen 3
  have z_r4 := Hr_7.out.frozen 4
  have z_r5 := Hr_7.out.frozen 5
  have z_r6 := Hr_7.out.frozen 6
  have lt_z := Hz_7.out.lt
  have r_z0 : v7.cell? ⟨v2.heap.size, 0, none⟩ = some (.int .i64 ex) := Hz_7.out.cell 0
  have r_z1 : v7.cell? ⟨v2.heap.size, 1, none⟩ = some (.int .i64 et) := Hz_7.out.cell 1
  have r_z2 : v7.cell? ⟨v2.heap.size, 2, none⟩ = some (.slice A5 n c5) := Hz_7.out.cell 2
  have r_z3 : v7.cell? ⟨v2.heap.size, 3, none⟩ = some (.slice B5 m d5) := Hz_7.out.cell 3
  have r_z4 : v7.cell? ⟨v2.heap.size, 4, none⟩ = some (.int .i64 l0) := Hz_7.out.cell 4
  have r_z5 : v7.cell? ⟨v2.heap.size, 5, none⟩ = some (.int .i64 l1) := Hz_7.out.cell 5
  have r_z6 : v7.cell? ⟨v2.heap.size, 6, none⟩ = some (.int .i64 l2) := Hz_7.out.cell 6
  have z_z0 := Hz_7.out.frozen 0
  have z_z1 := Hz_7.out.frozen 1
  have z_z2 := Hz_7.out.frozen 2
  have z_z3 := Hz_7.out.frozen 3
  have z_z4 := Hz_7.out.frozen 4
  have z_z5 := Hz_7.out.frozen 5
  have z_z6 := Hz_7.out.frozen 6
  have lt_j := Hj_7.out.lt
  have r_j0 : v7.cell? ⟨v6.heap.size, 0, none⟩ = some (.int .i64 ji) := Hj_7.out.cell 0
  have r_j1 : v7.cell? ⟨v6.heap.size, 1, none⟩ = some (.int .i64 jd) := Hj_7.out.cell 1
  have r_j2 : v7.cell? ⟨v6.heap.size, 2, none⟩ = some (.int .i64 jk) := Hj_7.out.cell 2
  have r_j3 : v7.cell? ⟨v6.heap.size, 3, none⟩ = some (.int .i64 jv) := Hj_7.out.cell 3
  have r_j4 : v7.cell? ⟨v6.heap.size, 4, none⟩ = some (.int .i64 jf) := Hj_7.out.cell 4
  have z_j0 := Hj_7.out.frozen 0
  have z_j1 := Hj_7.out.frozen 1
  have z_j2 := Hj_7.out.frozen 2
  have z_j3 := Hj_7.out.frozen 3
  have z_j4 := Hj_7.out.frozen 4
  have cc := firedRS_any B m d ql ea ex v7 HQ_7.out hR.out hm HB.out
  rw [hq2.out] at cc
  replace cc := cc.mono (fun _ _ h => Lib.hid h)
  have HX : ∀ e w1, RetRowB v7 71 5 (q2, o2).1.length (JB (q2, o2).1) (q2, o2).2 e w1 → RetRowB v7 71 5 m2 (JB q2) o2 e w1 := fun e w1 h => by
    have := hm2.out
    subst this
    exact h
  refine cc.mono ?_
  rintro e v8 hx_
  obtain ⟨A6, c6, rfl, R7, b8⟩ := HX _ _ hx_.out
  clear HX hx_ cc
  have Mu := Lib.hid (show v2.heap.size < v7.heap.size from by have := Hz_7.out.lt; exact this)
  have f8 := bthen f7 b8
  have z8 := b8.size
  have HP_8 := Lib.hid (HP_7.out.below b8)
  have HQ_8 := Lib.hid (HQ_7.out.below b8)
  have Ha_8 := Lib.hid (Ha_7.out.below b8)
  have Hb_8 := Lib.hid (Hb_7.out.below b8)
  have Hr_8 := Lib.hid (Hr_7.out.below b8)
  have Hx_8 := Lib.hid (Hx_7.out.below b8)
  have Hy_8 := Lib.hid (Hy_7.out.below b8)
  have Hz_8 := Lib.hid (Hz_7.out.below b8)
  have Hj_8 := Lib.hid (Hj_7.out.below b8)
  clear lt_a r_a0 r_a1 r_a2 r_a3 r_a4 r_a5 r_a6 lt_b r_b0 r_b1 r_b2 r_b3 r_b4 r_b5 r_b6 r_b7 r_b8 lt_r r_r0 r_r1 r_r2 r_r3 r_r4 r_r5 r_r6 z_r0 z_r1 z_r2 z_r3 z_r4 z_r5 z_r6 lt_z r_z0 r_z1 r_z2 r_z3 r_z4 r_z5 r_z6 z_z0 z_z1 z_z2 z_z3 z_z4 z_z5 z_z6 lt_j r_j0 r_j1 r_j2 r_j3 r_j4 z_j0 z_j1 z_j2 z_j3 z_j4
  clear HP_7 HQ_7 Ha_7 Hb_7 Hr_7 Hx_7 Hy_7 Hz_7 Hj_7
  have Hu_8 := Lib.hid R7
  clear R7
  have lt_a := Ha_8.out.lt
  have r_a0 : v8.cell? ⟨w.heap.size, 0, none⟩ = some (.int .i64 i0) := Ha_8.out.cell 0
  have r_a1 : v8.cell? ⟨w.heap.size, 1, none⟩ = some (.int .i64 t0) := Ha_8.out.cell 1
  have r_a2 : v8.cell? ⟨w.heap.size, 2, none⟩ = some (.slice A n c) := Ha_8.out.cell 2
  have r_a3 : v8.cell? ⟨w.heap.size, 3, none⟩ = some (.slice B m d) := Ha_8.out.cell 3
  have r_a4 : v8.cell? ⟨w.heap.size, 4, none⟩ = some (.int .i64 l0) := Ha_8.out.cell 4
  have r_a5 : v8.cell? ⟨w.heap.size, 5, none⟩ = some (.int .i64 l1) := Ha_8.out.cell 5
  have r_a6 : v8.cell? ⟨w.heap.size, 6, none⟩ = some (.int .i64 l2) := Ha_8.out.cell 6
  have lt_b := Hb_8.out.lt
  have r_b0 : v8.cell? ⟨g1, 0, none⟩ = some (.int .i64 ex) := Hb_8.out.cell 0
  have r_b1 : v8.cell? ⟨g1, 1, none⟩ = some (.int .i64 et) := Hb_8.out.cell 1
  have r_b2 : v8.cell? ⟨g1, 2, none⟩ = some (.int .i64 ec) := Hb_8.out.cell 2
  have r_b3 : v8.cell? ⟨g1, 3, none⟩ = some (.int .i64 es) := Hb_8.out.cell 3
  have r_b4 : v8.cell? ⟨g1, 4, none⟩ = some (.int .i64 4) := Hb_8.out.cell 4
  have r_b5 : v8.cell? ⟨g1, 5, none⟩ = some (.int .i64 ea) := Hb_8.out.cell 5
  have r_b6 : v8.cell? ⟨g1, 6, none⟩ = some (.int .i64 eb) := Hb_8.out.cell 6
  have r_b7 : v8.cell? ⟨g1, 7, none⟩ = some (.int .i64 eg) := Hb_8.out.cell 7
  have r_b8 : v8.cell? ⟨g1, 8, none⟩ = some (.int .i64 eh) := Hb_8.out.cell 8
  have lt_r := Hr_8.out.lt
  have r_r0 : v8.cell? ⟨g2, 0, none⟩ = some (.int .i64 0) := Hr_8.out.cell 0
  have r_r1 : v8.cell? ⟨g2, 1, none⟩ = some (.int .i64 0) := Hr_8.out.cell 1
  have r_r2 : v8.cell? ⟨g2, 2, none⟩ = some (.slice none 0 0) := Hr_8.out.cell 2
  have r_r3 : v8.cell? ⟨g2, 3, none⟩ = some (.slice none 0 0) := Hr_8.out.cell 3
  have r_r4 : v8.cell? ⟨g2, 4, none⟩ = some (.int .i64 0) := Hr_8.out.cell 4
  have r_r5 : v8.cell? ⟨g2, 5, none⟩ = some (.int .i64 0) := Hr_8.out.cell 5
  have r_r6 : v8.cell? ⟨g2, 6, none⟩ = some (.int .i64 0) := Hr_8.out.cell 6
  have z_r0 := Hr_8.out.frozen 0
  have z_r1 := Hr_8.out.frozen 1
  have z_r2 := Hr_8.out.frozen 2
  have z_r3 := Hr_8.out.frozen 3
  have z_r4 := Hr_8.out.frozen 4
  have z_r5 := Hr_8.out.frozen 5
  have z_r6 := Hr_8.out.frozen 6
  have lt_z := Hz_8.out.lt
  have r_z0 : v8.cell? ⟨v2.heap.size, 0, none⟩ = some (.int .i64 ex) := Hz_8.out.cell 0
  have r_z1 : v8.cell? ⟨v2.heap.size, 1, none⟩ = some (.int .i64 et) := Hz_8.out.cell 1
  have r_z2 : v8.cell? ⟨v2.heap.size, 2, none⟩ = some (.slice A5 n c5) := Hz_8.out.cell 2
  have r_z3 : v8.cell? ⟨v2.heap.size, 3, none⟩ = some (.slice B5 m d5) := Hz_8.out.cell 3
  have r_z4 : v8.cell? ⟨v2.heap.size, 4, none⟩ = some (.int .i64 l0) := Hz_8.out.cell 4
  have r_z5 : v8.cell? ⟨v2.heap.size, 5, none⟩ = some (.int .i64 l1) := Hz_8.out.cell 5
  have r_z6 : v8.cell? ⟨v2.heap.size, 6, none⟩ = some (.int .i64 l2) := Hz_8.out.cell 6
  have z_z0 := Hz_8.out.frozen 0
  have z_z1 := Hz_8.out.frozen 1
  have z_z2 := Hz_8.out.frozen 2
  have z_z3 := Hz_8.out.frozen 3
  have z_z4 := Hz_8.out.frozen 4
  have z_z5 := Hz_8.out.frozen 5
  have z_z6 := Hz_8.out.frozen 6
  have lt_j := Hj_8.out.lt
  have r_j0 : v8.cell? ⟨v6.heap.size, 0, none⟩ = some (.int .i64 ji) := Hj_8.out.cell 0
  have r_j1 : v8.cell? ⟨v6.heap.size, 1, none⟩ = some (.int .i64 jd) := Hj_8.out.cell 1
  have r_j2 : v8.cell? ⟨v6.heap.size, 2, none⟩ = some (.int .i64 jk) := Hj_8.out.cell 2
  have r_j3 : v8.cell? ⟨v6.heap.size, 3, none⟩ = some (.int .i64 jv) := Hj_8.out.cell 3
  have r_j4 : v8.cell? ⟨v6.heap.size, 4, none⟩ = some (.int .i64 jf) := Hj_8.out.cell 4
  have z_j0 := Hj_8.out.frozen 0
  have z_j1 := Hj_8.out.frozen 1
  have z_j2 := Hj_8.out.frozen 2
  have z_j3 := Hj_8.out.frozen 3
  have z_j4 := Hj_8.out.frozen 4
  go_wp2_with fail
  refine calls_named ?_
  rintro v9 hv9
  have f9 : Below w.heap.size w v9 := by rw [hv9]; (repeat' (first | (with_reducible exact Below.refl _ _) | (with_reducible assumption) | (with_reducible refine Below.alloc ?_ ?_ _) | (with_reducible refine Below.drew ?_) | (with_reducible refine Below.setCell ?_ ?_ _) | (with_reducible refine bstep (by assumption) ?_ ?_) | (with_reducible exact Nat.le_refl _) | omega | (simp [*]; done) | (simp [*]; omega)))
  have z9 : v8.heap.size + 0 ≤ v9.heap.size := by rw [hv9]; simp [size_set]
  have HP_9 : Hid (Sl v9 2 A n (PR pl)) := by rw [hv9]; exact (HP_8.out).far (p := ⟨v2.heap.size, 3, none⟩) (fun hn a ha => by have := HP_lt.out hn a ha; show a.block ≠ v2.heap.size; omega) _
  have HQ_9 : Hid (Sl v9 5 B m (JB ql)) := by rw [hv9]; exact (HQ_8.out).far (p := ⟨v2.heap.size, 3, none⟩) (fun hn a ha => by have := HQ_lt.out hn a ha; show a.block ≠ v2.heap.size; omega) _
  have Ha_9 : Hid (Blk v9 w.heap.size 37 #[.int .i64 i0, .int .i64 t0, .slice A n c, .slice B m d, .int .i64 l0, .int .i64 l1, .int .i64 l2]) := by rw [hv9]; exact (Ha_8.out).far (p := ⟨v2.heap.size, 3, none⟩) (show w.heap.size ≠ v2.heap.size by omega) _
  have Hb_9 : Hid (Blk v9 g1 43 #[.int .i64 ex, .int .i64 et, .int .i64 ec, .int .i64 es, .int .i64 4, .int .i64 ea, .int .i64 eb, .int .i64 eg, .int .i64 eh]) := by rw [hv9]; exact (Hb_8.out).far (p := ⟨v2.heap.size, 3, none⟩) (show g1 ≠ v2.heap.size by omega) _
  have Hr_9 : Hid (Blk v9 g2 37 #[.int .i64 0, .int .i64 0, .slice none 0 0, .slice none 0 0, .int .i64 0, .int .i64 0, .int .i64 0]) := by rw [hv9]; exact (Hr_8.out).far (p := ⟨v2.heap.size, 3, none⟩) (show g2 ≠ v2.heap.size by omega) _
  have Hx_9 : Hid (Row v9 v1.heap.size 106 2 A5 n c5 (PR pl)) := by rw [hv9]; exact (Hx_8.out).far (p := ⟨v2.heap.size, 3, none⟩) (fun a ha => by have := Lx.out a ha; show a.block ≠ v2.heap.size; omega) _
  have Hy_9 : Hid (Row v9 v1.heap.size 71 5 B5 m d5 (JB ql)) := by rw [hv9]; exact (Hy_8.out).far (p := ⟨v2.heap.size, 3, none⟩) (fun a ha => by have := Ly.out a ha; show a.block ≠ v2.heap.size; omega) _
  have Hz_9 : Hid (Blk v9 v2.heap.size 37 #[.int .i64 ex, .int .i64 et, .slice A5 n c5, .slice A6 m2 c6, .int .i64 l0, .int .i64 l1, .int .i64 l2]) := by rw [hv9]; exact (Hz_8.out).set_ 3 _
  have Hj_9 : Hid (Blk v9 v6.heap.size 71 #[.int .i64 ji, .int .i64 jd, .int .i64 jk, .int .i64 jv, .int .i64 jf]) := by rw [hv9]; exact (Hj_8.out).far (p := ⟨v2.heap.size, 3, none⟩) (show v6.heap.size ≠ v2.heap.size by omega) _
  have Hu_9 : Hid (Row v9 v7.heap.size 71 5 A6 m2 c6 (JB q2)) := by rw [hv9]; exact (Hu_8.out).far (p := ⟨v2.heap.size, 3, none⟩) (fun a ha => by have := Hu_8.out.ge a ha; have h9 := Mu.out; show a.block ≠ v2.heap.size; omega) _
  clear lt_a r_a0 r_a1 r_a2 r_a3 r_a4 r_a5 r_a6 lt_b r_b0 r_b1 r_b2 r_b3 r_b4 r_b5 r_b6 r_b7 r_b8 lt_r r_r0 r_r1 r_r2 r_r3 r_r4 r_r5 r_r6 z_r0 z_r1 z_r2 z_r3 z_r4 z_r5 z_r6 lt_z r_z0 r_z1 r_z2 r_z3 r_z4 r_z5 r_z6 z_z0 z_z1 z_z2 z_z3 z_z4 z_z5 z_z6 lt_j r_j0 r_j1 r_j2 r_j3 r_j4 z_j0 z_j1 z_j2 z_j3 z_j4
  clear hv9 HP_8 HQ_8 Ha_8 Hb_8 Hr_8 Hx_8 Hy_8 Hz_8 Hj_8 Hu_8
  have lt_a := Ha_9.out.lt
  have r_a0 : v9.cell? ⟨w.heap.size, 0, none⟩ = some (.int .i64 i0) := Ha_9.out.cell 0
  have r_a1 : v9.cell? ⟨w.heap.size, 1, none⟩ = some (.int .i64 t0) := Ha_9.out.cell 1
  have r_a2 : v9.cell? ⟨w.heap.size, 2, none⟩ = some (.slice A n c) := Ha_9.out.cell 2
  have r_a3 : v9.cell? ⟨w.heap.size, 3, none⟩ = some (.slice B m d) := Ha_9.out.cell 3
  have r_a4 : v9.cell? ⟨w.heap.size, 4, none⟩ = some (.int .i64 l0) := Ha_9.out.cell 4
  have r_a5 : v9.cell? ⟨w.heap.size, 5, none⟩ = some (.int .i64 l1) := Ha_9.out.cell 5
  have r_a6 : v9.cell? ⟨w.heap.size, 6, none⟩ = some (.int .i64 l2) := Ha_9.out.cell 6
  have lt_b := Hb_9.out.lt
  have r_b0 : v9.cell? ⟨g1, 0, none⟩ = some (.int .i64 ex) := Hb_9.out.cell 0
  have r_b1 : v9.cell? ⟨g1, 1, none⟩ = some (.int .i64 et) := Hb_9.out.cell 1
  have r_b2 : v9.cell? ⟨g1, 2, none⟩ = some (.int .i64 ec) := Hb_9.out.cell 2
  have r_b3 : v9.cell? ⟨g1, 3, none⟩ = some (.int .i64 es) := Hb_9.out.cell 3
  have r_b4 : v9.cell? ⟨g1, 4, none⟩ = some (.int .i64 4) := Hb_9.out.cell 4
  have r_b5 : v9.cell? ⟨g1, 5, none⟩ = some (.int .i64 ea) := Hb_9.out.cell 5
  have r_b6 : v9.cell? ⟨g1, 6, none⟩ = some (.int .i64 eb) := Hb_9.out.cell 6
  have r_b7 : v9.cell? ⟨g1, 7, none⟩ = some (.int .i64 eg) := Hb_9.out.cell 7
  have r_b8 : v9.cell? ⟨g1, 8, none⟩ = some (.int .i64 eh) := Hb_9.out.cell 8
  have lt_r := Hr_9.out.lt
  have r_r0 : v9.cell? ⟨g2, 0, none⟩ = some (.int .i64 0) := Hr_9.out.cell 0
  have r_r1 : v9.cell? ⟨g2, 1, none⟩ = some (.int .i64 0) := Hr_9.out.cell 1
  have r_r2 : v9.cell? ⟨g2, 2, none⟩ = some (.slice none 0 0) := Hr_9.out.cell 2
  have r_r3 : v9.cell? ⟨g2, 3, none⟩ = some (.slice none 0 0) := Hr_9.out.cell 3
  have r_r4 : v9.cell? ⟨g2, 4, none⟩ = some (.int .i64 0) := Hr_9.out.cell 4
  have r_r5 : v9.cell? ⟨g2, 5, none⟩ = some (.int .i64 0) := Hr_9.out.cell 5
  have r_r6 : v9.cell? ⟨g2, 6, none⟩ = some (.int .i64 0) := Hr_9.out.cell 6
  have z_r0 := Hr_9.out.frozen 0
  have z_r1 := Hr_9.out.frozen 1
  have z_r2 := Hr_9.out.frozen 2
  have z_r3 := Hr_9.out.frozen 3
  have z_r4 := Hr_9.out.frozen 4
  have z_r5 := Hr_9.out.frozen 5
  have z_r6 := Hr_9.out.frozen 6
  have lt_z := Hz_9.out.lt
  have r_z0 : v9.cell? ⟨v2.heap.size, 0, none⟩ = some (.int .i64 ex) := Hz_9.out.cell 0
  have r_z1 : v9.cell? ⟨v2.heap.size, 1, none⟩ = some (.int .i64 et) := Hz_9.out.cell 1
  have r_z2 : v9.cell? ⟨v2.heap.size, 2, none⟩ = some (.slice A5 n c5) := Hz_9.out.cell 2
  have r_z3 : v9.cell? ⟨v2.heap.size, 3, none⟩ = some (.slice A6 m2 c6) := Hz_9.out.cell 3
  have r_z4 : v9.cell? ⟨v2.heap.size, 4, none⟩ = some (.int .i64 l0) := Hz_9.out.cell 4
  have r_z5 : v9.cell? ⟨v2.heap.size, 5, none⟩ = some (.int .i64 l1) := Hz_9.out.cell 5
  have r_z6 : v9.cell? ⟨v2.heap.size, 6, none⟩ = some (.int .i64 l2) := Hz_9.out.cell 6
  have z_z0 := Hz_9.out.frozen 0
  have z_z1 := Hz_9.out.frozen 1
  have z_z2 := Hz_9.out.frozen 2
  have z_z3 := Hz_9.out.frozen 3
  have z_z4 := Hz_9.out.frozen 4
  have z_z5 := Hz_9.out.frozen 5
  have z_z6 := Hz_9.out.frozen 6
  have lt_j := Hj_9.out.lt
  have r_j0 : v9.cell? ⟨v6.heap.size, 0, none⟩ = some (.int .i64 ji) := Hj_9.out.cell 0
  have r_j1 : v9.cell? ⟨v6.heap.size, 1, none⟩ = some (.int .i64 jd) := Hj_9.out.cell 1
  have r_j2 : v9.cell? ⟨v6.heap.size, 2, none⟩ = some (.int .i64 jk) := Hj_9.out.cell 2
  have r_j3 : v9.cell? ⟨v6.heap.size, 3, none⟩ = some (.int .i64 jv) := Hj_9.out.cell 3
  have r_j4 : v9.cell? ⟨v6.heap.size, 4, none⟩ = some (.int .i64 jf) := Hj_9.out.cell 4
  have z_j0 := Hj_9.out.frozen 0
  have z_j1 := Hj_9.out.frozen 1
  have z_j2 := Hj_9.out.frozen 2
  have z_j3 := Hj_9.out.frozen 3
  have z_j4 := Hj_9.out.frozen 4
  have cc := putRS_any A n c pl jk jv v9 HP_9.out hL.out hn HA.out
  rw [hp2.out] at cc
  replace cc := cc.mono (fun _ _ h => Lib.hid h)
  have HX : ∀ e w1, RetRowB v9 106 2 (p2, o1).1.length (PR (p2, o1).1) (p2, o1).2 e w1 → RetRowB v9 106 2 n2 (PR p2) o1 e w1 := fun e w1 h => by
    have := hn2.out
    subst this
    exact h
  have Lu := Lib.hid Hu_9.out.lt
  refine cc.mono ?_
  rintro e v10 hx_
  obtain ⟨A7, c7, rfl, R9, b10⟩ := HX _ _ hx_.out
  clear HX hx_ cc
  have Ms := Lib.hid (show v2.heap.size < v9.heap.size from by have := Hz_9.out.lt; exact this)
  have f10 := bthen f9 b10
  have z10 := b10.size
  have HP_10 := Lib.hid (HP_9.out.below b10)
  have HQ_10 := Lib.hid (HQ_9.out.below b10)
  have Ha_10 := Lib.hid (Ha_9.out.below b10)
  have Hb_10 := Lib.hid (Hb_9.out.below b10)
  have Hr_10 := Lib.hid (Hr_9.out.below b10)
  have Hx_10 := Lib.hid (Hx_9.out.below b10)
  have Hy_10 := Lib.hid (Hy_9.out.below b10)
  have Hz_10 := Lib.hid (Hz_9.out.below b10)
  have Hj_10 := Lib.hid (Hj_9.out.below b10)
  have Hu_10 := Lib.hid (Hu_9.out.below b10)
  clear lt_a r_a0 r_a1 r_a2 r_a3 r_a4 r_a5 r_a6 lt_b r_b0 r_b1 r_b2 r_b3 r_b4 r_b5 r_b6 r_b7 r_b8 lt_r r_r0 r_r1 r_r2 r_r3 r_r4 r_r5 r_r6 z_r0 z_r1 z_r2 z_r3 z_r4 z_r5 z_r6 lt_z r_z0 r_z1 r_z2 r_z3 r_z4 r_z5 r_z6 z_z0 z_z1 z_z2 z_z3 z_z4 z_z5 z_z6 lt_j r_j0 r_j1 r_j2 r_j3 r_j4 z_j0 z_j1 z_j2 z_j3 z_j4
  clear HP_9 HQ_9 Ha_9 Hb_9 Hr_9 Hx_9 Hy_9 Hz_9 Hj_9 Hu_9
  have Hs_10 := Lib.hid R9
  clear R9
  have lt_a := Ha_10.out.lt
  have r_a0 : v10.cell? ⟨w.heap.size, 0, none⟩ = some (.int .i64 i0) := Ha_10.out.cell 0
  have r_a1 : v10.cell? ⟨w.heap.size, 1, none⟩ = some (.int .i64 t0) := Ha_10.out.cell 1
  have r_a2 : v10.cell? ⟨w.heap.size, 2, none⟩ = some (.slice A n c) := Ha_10.out.cell 2
  have r_a3 : v10.cell? ⟨w.heap.size, 3, none⟩ = some (.slice B m d) := Ha_10.out.cell 3
  have r_a4 : v10.cell? ⟨w.heap.size, 4, none⟩ = some (.int .i64 l0) := Ha_10.out.cell 4
  have r_a5 : v10.cell? ⟨w.heap.size, 5, none⟩ = some (.int .i64 l1) := Ha_10.out.cell 5
  have r_a6 : v10.cell? ⟨w.heap.size, 6, none⟩ = some (.int .i64 l2) := Ha_10.out.cell 6
  have lt_b := Hb_10.out.lt
  have r_b0 : v10.cell? ⟨g1, 0, none⟩ = some (.int .i64 ex) := Hb_10.out.cell 0
  have r_b1 : v10.cell? ⟨g1, 1, none⟩ = some (.int .i64 et) := Hb_10.out.cell 1
  have r_b2 : v10.cell? ⟨g1, 2, none⟩ = some (.int .i64 ec) := Hb_10.out.cell 2
  have r_b3 : v10.cell? ⟨g1, 3, none⟩ = some (.int .i64 es) := Hb_10.out.cell 3
  have r_b4 : v10.cell? ⟨g1, 4, none⟩ = some (.int .i64 4) := Hb_10.out.cell 4
  have r_b5 : v10.cell? ⟨g1, 5, none⟩ = some (.int .i64 ea) := Hb_10.out.cell 5
  have r_b6 : v10.cell? ⟨g1, 6, none⟩ = some (.int .i64 eb) := Hb_10.out.cell 6
  have r_b7 : v10.cell? ⟨g1, 7, none⟩ = some (.int .i64 eg) := Hb_10.out.cell 7
  have r_b8 : v10.cell? ⟨g1, 8, none⟩ = some (.int .i64 eh) := Hb_10.out.cell 8
  have lt_r := Hr_10.out.lt
  have r_r0 : v10.cell? ⟨g2, 0, none⟩ = some (.int .i64 0) := Hr_10.out.cell 0
  have r_r1 : v10.cell? ⟨g2, 1, none⟩ = some (.int .i64 0) := Hr_10.out.cell 1
  have r_r2 : v10.cell? ⟨g2, 2, none⟩ = some (.slice none 0 0) := Hr_10.out.cell 2
  have r_r3 : v10.cell? ⟨g2, 3, none⟩ = some (.slice none 0 0) := Hr_10.out.cell 3
  have r_r4 : v10.cell? ⟨g2, 4, none⟩ = some (.int .i64 0) := Hr_10.out.cell 4
  have r_r5 : v10.cell? ⟨g2, 5, none⟩ = some (.int .i64 0) := Hr_10.out.cell 5
  have r_r6 : v10.cell? ⟨g2, 6, none⟩ = some (.int .i64 0) := Hr_10.out.cell 6
  have z_r0 := Hr_10.out.frozen 0
  have z_r1 := Hr_10.out.frozen 1
  have z_r2 := Hr_10.out.frozen 2
  have z_r3 := Hr_10.out.frozen 3
  have z_r4 := Hr_10.out.frozen 4
  have z_r5 := Hr_10.out.frozen 5
  have z_r6 := Hr_10.out.frozen 6
  have lt_z := Hz_10.out.lt
  have r_z0 : v10.cell? ⟨v2.heap.size, 0, none⟩ = some (.int .i64 ex) := Hz_10.out.cell 0
  have r_z1 : v10.cell? ⟨v2.heap.size, 1, none⟩ = some (.int .i64 et) := Hz_10.out.cell 1
  have r_z2 : v10.cell? ⟨v2.heap.size, 2, none⟩ = some (.slice A5 n c5) := Hz_10.out.cell 2
  have r_z3 : v10.cell? ⟨v2.heap.size, 3, none⟩ = some (.slice A6 m2 c6) := Hz_10.out.cell 3
  have r_z4 : v10.cell? ⟨v2.heap.size, 4, none⟩ = some (.int .i64 l0) := Hz_10.out.cell 4
  have r_z5 : v10.cell? ⟨v2.heap.size, 5, none⟩ = some (.int .i64 l1) := Hz_10.out.cell 5
  have r_z6 : v10.cell? ⟨v2.heap.size, 6, none⟩ = some (.int .i64 l2) := Hz_10.out.cell 6
  have z_z0 := Hz_10.out.frozen 0
  have z_z1 := Hz_10.out.frozen 1
  have z_z2 := Hz_10.out.frozen 2
  have z_z3 := Hz_10.out.frozen 3
  have z_z4 := Hz_10.out.frozen 4
  have z_z5 := Hz_10.out.frozen 5
  have z_z6 := Hz_10.out.frozen 6
  have lt_j := Hj_10.out.lt
  have r_j0 : v10.cell? ⟨v6.heap.size, 0, none⟩ = some (.int .i64 ji) := Hj_10.out.cell 0
  have r_j1 : v10.cell? ⟨v6.heap.size, 1, none⟩ = some (.int .i64 jd) := Hj_10.out.cell 1
  have r_j2 : v10.cell? ⟨v6.heap.size, 2, none⟩ = some (.int .i64 jk) := Hj_10.out.cell 2
  have r_j3 : v10.cell? ⟨v6.heap.size, 3, none⟩ = some (.int .i64 jv) := Hj_10.out.cell 3
  have r_j4 : v10.cell? ⟨v6.heap.size, 4, none⟩ = some (.int .i64 jf) := Hj_10.out.cell 4
  have z_j0 := Hj_10.out.frozen 0
  have z_j1 := Hj_10.out.frozen 1
  have z_j2 := Hj_10.out.frozen 2
  have z_j3 := Hj_10.out.frozen 3
  have z_j4 := Hj_10.out.frozen 4
  have hap2 : ∀ a b, A7 = some a → A6 = some b → a.block ≠ b.block := fun a b ha hb => by
    have h1 := Lu.out b hb
    have h2 := Hs_10.out.ge a ha
    omega
  have HAP2 := Lib.hid hap2
  clear hap2
  go_wp21
  refine bodyPost_ret (v := .tuple #[.agg #[.int .i64 ex, .int .i64 et, .slice A7 n2 c7, .slice A6 m2 c6, .int .i64 l0, .int .i64 l1, .int .i64 l2], .bool true]) (by simp [results, Tryz.results7, go_sem, *]) rfl ?_
  have ns : ∀ a, A7 = some a → a.block ≠ g2 := fun a ha => by have := Hs_10.out.ge a ha; omega
  have nzs : ∀ a, A7 = some a → a.block ≠ v2.heap.size := fun a ha => by have := Hs_10.out.ge a ha; have h9 := Ms.out; omega
  have nu : ∀ a, A6 = some a → a.block ≠ g2 := fun a ha => by have := Hu_10.out.ge a ha; omega
  have nzu : ∀ a, A6 = some a → a.block ≠ v2.heap.size := fun a ha => by have := Hu_10.out.ge a ha; have h9 := Mu.out; omega
  exact RetStateV.mk hn2.out hm2.out (row_far7 (((Hs_10.out).far (p := ⟨v2.heap.size, 2, none⟩) nzs _).mono (by omega)) ns _ _ _ _ _ _ _) (row_far7 (((Hu_10.out).far (p := ⟨v2.heap.size, 2, none⟩) nzu _).mono (by omega)) nu _ _ _ _ _ _ _) HAP2.out (by (repeat' (first | (with_reducible exact Below.refl _ _) | (with_reducible assumption) | (with_reducible refine Below.alloc ?_ ?_ _) | (with_reducible refine Below.drew ?_) | (with_reducible refine Below.setCell ?_ ?_ _) | (with_reducible refine bstep (by assumption) ?_ ?_) | (with_reducible exact Nat.le_refl _) | omega | (simp [*]; done) | (simp [*]; omega))))
set_option maxRecDepth 100000 in
set_option maxHeartbeats 4000000 in
theorem specApp_5 (A : Option Addr) (n c : Nat) (B : Option Addr) (m d : Nat) (i0 t0 l0 l1 l2 : Int) (pl : List Pr) (ql : List Jb) (ex et ec es ea eb eg eh : Int) (w : World) (hP : Sl w 2 A n (PR pl)) (hQ : Sl w 5 B m (JB ql)) (hl : pl.length = n) (hr : ql.length = m) (hn : n ≤ maxLen) (hm : m ≤ maxLen) (hA : A = none → n = 0 ∧ c = 0) (hB : B = none → m = 0 ∧ d = 0) (hS : Hid (stateB i0 t0 l0 l1 l2 pl ql = true)) (hn10 : n ≤ 10) (hm8 : m ≤ 8) (hx : Hid (effI i0 t0 l0 l1 l2 pl ql ex et ec es 5 ea eb eg eh = 5)) (h2 e2 u2 : Int) (ok : Bool) (hv : Hid (grantL l0 l1 l2 ec et ea = ((h2, e2, u2), ok))) :
    Calls Tryz.prog 7 #[.agg #[.int .i64 i0, .int .i64 t0, .slice A n c, .slice B m d, .int .i64 l0, .int .i64 l1, .int .i64 l2], .agg #[.int .i64 ex, .int .i64 et, .int .i64 ec, .int .i64 es, .int .i64 5, .int .i64 ea, .int .i64 eb, .int .i64 eg, .int .i64 eh]] w (RetStateV w ex et h2 e2 u2 pl.length (PR pl) ql.length (JB ql) (.bool true)) := by
  have HP := Lib.hid hP
  have HQ := Lib.hid hQ
  have HA := Lib.hid hA
  have HB := Lib.hid hB
  have hL := Lib.hid hl
  have hR := Lib.hid hr
  clear hP hQ hA hB hl hr
  go_enter Tryz.func7, Tryz.ntmps7
  go_wp2_with fail
  refine calls_named ?_
  rintro v0 hv0
  have f0 : Below w.heap.size w v0 := by rw [hv0]; (repeat' (first | (with_reducible exact Below.refl _ _) | (with_reducible assumption) | (with_reducible refine Below.alloc ?_ ?_ _) | (with_reducible refine Below.drew ?_) | (with_reducible refine Below.setCell ?_ ?_ _) | (with_reducible refine bstep (by assumption) ?_ ?_) | (with_reducible exact Nat.le_refl _) | omega | (simp [*]; done) | (simp [*]; omega)))
  have z0 : w.heap.size + 3 ≤ v0.heap.size := by rw [hv0]; simp [size_set]
  have HP_0 := Lib.hid (HP.out.below f0)
  have HP_lt := Lib.hid (fun hn => HP.out.lt hn)
  have HQ_0 := Lib.hid (HQ.out.below f0)
  have HQ_lt := Lib.hid (fun hn => HQ.out.lt hn)
  have Ha_0 : Hid (Blk v0 w.heap.size 37 #[.int .i64 i0, .int .i64 t0, .slice A n c, .slice B m d, .int .i64 l0, .int .i64 l1, .int .i64 l2]) := by rw [hv0]; exact ((Blk.new_at _ _ _ _ (by simp)).alloc _).alloc _
  have Hb_0 : Hid (Blk v0 (w.heap.size + 1) 43 #[.int .i64 ex, .int .i64 et, .int .i64 ec, .int .i64 es, .int .i64 5, .int .i64 ea, .int .i64 eb, .int .i64 eg, .int .i64 eh]) := by rw [hv0]; exact (Blk.new_at _ _ _ _ (by simp)).alloc _
  have Hr_0 : Hid (Blk v0 (w.heap.size + 1 + 1) 37 #[.int .i64 0, .int .i64 0, .slice none 0 0, .slice none 0 0, .int .i64 0, .int .i64 0, .int .i64 0]) := by rw [hv0]; exact Blk.new_at _ _ _ _ (by simp)
  clear hv0
  generalize hg2 : w.heap.size + 1 + 1 = g2 at *
  generalize hg1 : w.heap.size + 1 = g1 at *
  have lg1 : w.heap.size < g1 := by omega
  have lg2 : g1 < g2 := by omega
  have lgz : g2 < v0.heap.size := by omega
  have nq1x0 : ¬ g1 = w.heap.size := by omega
  have nq0x1 : ¬ w.heap.size = g1 := by omega
  have nq2x0 : ¬ g2 = w.heap.size := by omega
  have nq0x2 : ¬ w.heap.size = g2 := by omega
  have nq2x1 : ¬ g2 = g1 := by omega
  have nq1x2 : ¬ g1 = g2 := by omega
  clear hg1 hg2
  have lt_a := Ha_0.out.lt
  have r_a0 : v0.cell? ⟨w.heap.size, 0, none⟩ = some (.int .i64 i0) := Ha_0.out.cell 0
  have r_a1 : v0.cell? ⟨w.heap.size, 1, none⟩ = some (.int .i64 t0) := Ha_0.out.cell 1
  have r_a2 : v0.cell? ⟨w.heap.size, 2, none⟩ = some (.slice A n c) := Ha_0.out.cell 2
  have r_a3 : v0.cell? ⟨w.heap.size, 3, none⟩ = some (.slice B m d) := Ha_0.out.cell 3
  have r_a4 : v0.cell? ⟨w.heap.size, 4, none⟩ = some (.int .i64 l0) := Ha_0.out.cell 4
  have r_a5 : v0.cell? ⟨w.heap.size, 5, none⟩ = some (.int .i64 l1) := Ha_0.out.cell 5
  have r_a6 : v0.cell? ⟨w.heap.size, 6, none⟩ = some (.int .i64 l2) := Ha_0.out.cell 6
  have lt_b := Hb_0.out.lt
  have r_b0 : v0.cell? ⟨g1, 0, none⟩ = some (.int .i64 ex) := Hb_0.out.cell 0
  have r_b1 : v0.cell? ⟨g1, 1, none⟩ = some (.int .i64 et) := Hb_0.out.cell 1
  have r_b2 : v0.cell? ⟨g1, 2, none⟩ = some (.int .i64 ec) := Hb_0.out.cell 2
  have r_b3 : v0.cell? ⟨g1, 3, none⟩ = some (.int .i64 es) := Hb_0.out.cell 3
  have r_b4 : v0.cell? ⟨g1, 4, none⟩ = some (.int .i64 5) := Hb_0.out.cell 4
  have r_b5 : v0.cell? ⟨g1, 5, none⟩ = some (.int .i64 ea) := Hb_0.out.cell 5
  have r_b6 : v0.cell? ⟨g1, 6, none⟩ = some (.int .i64 eb) := Hb_0.out.cell 6
  have r_b7 : v0.cell? ⟨g1, 7, none⟩ = some (.int .i64 eg) := Hb_0.out.cell 7
  have r_b8 : v0.cell? ⟨g1, 8, none⟩ = some (.int .i64 eh) := Hb_0.out.cell 8
  have lt_r := Hr_0.out.lt
  have r_r0 : v0.cell? ⟨g2, 0, none⟩ = some (.int .i64 0) := Hr_0.out.cell 0
  have r_r1 : v0.cell? ⟨g2, 1, none⟩ = some (.int .i64 0) := Hr_0.out.cell 1
  have r_r2 : v0.cell? ⟨g2, 2, none⟩ = some (.slice none 0 0) := Hr_0.out.cell 2
  have r_r3 : v0.cell? ⟨g2, 3, none⟩ = some (.slice none 0 0) := Hr_0.out.cell 3
  have r_r4 : v0.cell? ⟨g2, 4, none⟩ = some (.int .i64 0) := Hr_0.out.cell 4
  have r_r5 : v0.cell? ⟨g2, 5, none⟩ = some (.int .i64 0) := Hr_0.out.cell 5
  have r_r6 : v0.cell? ⟨g2, 6, none⟩ = some (.int .i64 0) := Hr_0.out.cell 6
  have z_r0 := Hr_0.out.frozen 0
  have z_r1 := Hr_0.out.frozen 1
  have z_r2 := Hr_0.out.frozen 2
  have z_r3 := Hr_0.out.frozen 3
  have z_r4 := Hr_0.out.frozen 4
  have z_r5 := Hr_0.out.frozen 5
  have z_r6 := Hr_0.out.frozen 6
  have cc := specStateOk_any A n c B m d i0 t0 l0 l1 l2 pl ql v0 HP_0.out HQ_0.out hL.out hR.out hn hm
  rw [hS.out] at cc
  refine (cc).mono ?_
  rintro e v1 ⟨rfl, b1⟩
  have f1 := bthen f0 b1
  have z1 := b1.size
  have HP_1 := Lib.hid (HP_0.out.below b1)
  have HQ_1 := Lib.hid (HQ_0.out.below b1)
  have Ha_1 := Lib.hid (Ha_0.out.below b1)
  have Hb_1 := Lib.hid (Hb_0.out.below b1)
  have Hr_1 := Lib.hid (Hr_0.out.below b1)
  clear lt_a r_a0 r_a1 r_a2 r_a3 r_a4 r_a5 r_a6 lt_b r_b0 r_b1 r_b2 r_b3 r_b4 r_b5 r_b6 r_b7 r_b8 lt_r r_r0 r_r1 r_r2 r_r3 r_r4 r_r5 r_r6 z_r0 z_r1 z_r2 z_r3 z_r4 z_r5 z_r6
  clear HP_0 HQ_0 Ha_0 Hb_0 Hr_0
  clear cc
  have lt_a := Ha_1.out.lt
  have r_a0 : v1.cell? ⟨w.heap.size, 0, none⟩ = some (.int .i64 i0) := Ha_1.out.cell 0
  have r_a1 : v1.cell? ⟨w.heap.size, 1, none⟩ = some (.int .i64 t0) := Ha_1.out.cell 1
  have r_a2 : v1.cell? ⟨w.heap.size, 2, none⟩ = some (.slice A n c) := Ha_1.out.cell 2
  have r_a3 : v1.cell? ⟨w.heap.size, 3, none⟩ = some (.slice B m d) := Ha_1.out.cell 3
  have r_a4 : v1.cell? ⟨w.heap.size, 4, none⟩ = some (.int .i64 l0) := Ha_1.out.cell 4
  have r_a5 : v1.cell? ⟨w.heap.size, 5, none⟩ = some (.int .i64 l1) := Ha_1.out.cell 5
  have r_a6 : v1.cell? ⟨w.heap.size, 6, none⟩ = some (.int .i64 l2) := Ha_1.out.cell 6
  have lt_b := Hb_1.out.lt
  have r_b0 : v1.cell? ⟨g1, 0, none⟩ = some (.int .i64 ex) := Hb_1.out.cell 0
  have r_b1 : v1.cell? ⟨g1, 1, none⟩ = some (.int .i64 et) := Hb_1.out.cell 1
  have r_b2 : v1.cell? ⟨g1, 2, none⟩ = some (.int .i64 ec) := Hb_1.out.cell 2
  have r_b3 : v1.cell? ⟨g1, 3, none⟩ = some (.int .i64 es) := Hb_1.out.cell 3
  have r_b4 : v1.cell? ⟨g1, 4, none⟩ = some (.int .i64 5) := Hb_1.out.cell 4
  have r_b5 : v1.cell? ⟨g1, 5, none⟩ = some (.int .i64 ea) := Hb_1.out.cell 5
  have r_b6 : v1.cell? ⟨g1, 6, none⟩ = some (.int .i64 eb) := Hb_1.out.cell 6
  have r_b7 : v1.cell? ⟨g1, 7, none⟩ = some (.int .i64 eg) := Hb_1.out.cell 7
  have r_b8 : v1.cell? ⟨g1, 8, none⟩ = some (.int .i64 eh) := Hb_1.out.cell 8
  have lt_r := Hr_1.out.lt
  have r_r0 : v1.cell? ⟨g2, 0, none⟩ = some (.int .i64 0) := Hr_1.out.cell 0
  have r_r1 : v1.cell? ⟨g2, 1, none⟩ = some (.int .i64 0) := Hr_1.out.cell 1
  have r_r2 : v1.cell? ⟨g2, 2, none⟩ = some (.slice none 0 0) := Hr_1.out.cell 2
  have r_r3 : v1.cell? ⟨g2, 3, none⟩ = some (.slice none 0 0) := Hr_1.out.cell 3
  have r_r4 : v1.cell? ⟨g2, 4, none⟩ = some (.int .i64 0) := Hr_1.out.cell 4
  have r_r5 : v1.cell? ⟨g2, 5, none⟩ = some (.int .i64 0) := Hr_1.out.cell 5
  have r_r6 : v1.cell? ⟨g2, 6, none⟩ = some (.int .i64 0) := Hr_1.out.cell 6
  have z_r0 := Hr_1.out.frozen 0
  have z_r1 := Hr_1.out.frozen 1
  have z_r2 := Hr_1.out.frozen 2
  have z_r3 := Hr_1.out.frozen 3
  have z_r4 := Hr_1.out.frozen 4
  have z_r5 := Hr_1.out.frozen 5
  have z_r6 := Hr_1.out.frozen 6
  go_wp2_with fail
  refine (l17Copy_any A n c B m d i0 t0 l0 l1 l2 pl ql _ HP_1.out HQ_1.out hL.out hR.out (by omega) (by omega) HA.out HB.out).mono ?_
  rintro e v2 ⟨A5, c5, B5, d5, rfl, R5, R6, hap, b2⟩
  have HAP := Lib.hid hap
  have Lx := Lib.hid R5.lt
  have Ly := Lib.hid R6.lt
  clear hap
  have f2 := bthen f1 b2
  have z2 := b2.size
  have HP_2 := Lib.hid (HP_1.out.below b2)
  have HQ_2 := Lib.hid (HQ_1.out.below b2)
  have Ha_2 := Lib.hid (Ha_1.out.below b2)
  have Hb_2 := Lib.hid (Hb_1.out.below b2)
  have Hr_2 := Lib.hid (Hr_1.out.below b2)
  clear lt_a r_a0 r_a1 r_a2 r_a3 r_a4 r_a5 r_a6 lt_b r_b0 r_b1 r_b2 r_b3 r_b4 r_b5 r_b6 r_b7 r_b8 lt_r r_r0 r_r1 r_r2 r_r3 r_r4 r_r5 r_r6 z_r0 z_r1 z_r2 z_r3 z_r4 z_r5 z_r6
  clear HP_1 HQ_1 Ha_1 Hb_1 Hr_1
  have Hx_2 := Lib.hid R5
  clear R5
  have Hy_2 := Lib.hid R6
  clear R6
  have lt_a := Ha_2.out.lt
  have r_a0 : v2.cell? ⟨w.heap.size, 0, none⟩ = some (.int .i64 i0) := Ha_2.out.cell 0
  have r_a1 : v2.cell? ⟨w.heap.size, 1, none⟩ = some (.int .i64 t0) := Ha_2.out.cell 1
  have r_a2 : v2.cell? ⟨w.heap.size, 2, none⟩ = some (.slice A n c) := Ha_2.out.cell 2
  have r_a3 : v2.cell? ⟨w.heap.size, 3, none⟩ = some (.slice B m d) := Ha_2.out.cell 3
  have r_a4 : v2.cell? ⟨w.heap.size, 4, none⟩ = some (.int .i64 l0) := Ha_2.out.cell 4
  have r_a5 : v2.cell? ⟨w.heap.size, 5, none⟩ = some (.int .i64 l1) := Ha_2.out.cell 5
  have r_a6 : v2.cell? ⟨w.heap.size, 6, none⟩ = some (.int .i64 l2) := Ha_2.out.cell 6
  have lt_b := Hb_2.out.lt
  have r_b0 : v2.cell? ⟨g1, 0, none⟩ = some (.int .i64 ex) := Hb_2.out.cell 0
  have r_b1 : v2.cell? ⟨g1, 1, none⟩ = some (.int .i64 et) := Hb_2.out.cell 1
  have r_b2 : v2.cell? ⟨g1, 2, none⟩ = some (.int .i64 ec) := Hb_2.out.cell 2
  have r_b3 : v2.cell? ⟨g1, 3, none⟩ = some (.int .i64 es) := Hb_2.out.cell 3
  have r_b4 : v2.cell? ⟨g1, 4, none⟩ = some (.int .i64 5) := Hb_2.out.cell 4
  have r_b5 : v2.cell? ⟨g1, 5, none⟩ = some (.int .i64 ea) := Hb_2.out.cell 5
  have r_b6 : v2.cell? ⟨g1, 6, none⟩ = some (.int .i64 eb) := Hb_2.out.cell 6
  have r_b7 : v2.cell? ⟨g1, 7, none⟩ = some (.int .i64 eg) := Hb_2.out.cell 7
  have r_b8 : v2.cell? ⟨g1, 8, none⟩ = some (.int .i64 eh) := Hb_2.out.cell 8
  have lt_r := Hr_2.out.lt
  have r_r0 : v2.cell? ⟨g2, 0, none⟩ = some (.int .i64 0) := Hr_2.out.cell 0
  have r_r1 : v2.cell? ⟨g2, 1, none⟩ = some (.int .i64 0) := Hr_2.out.cell 1
  have r_r2 : v2.cell? ⟨g2, 2, none⟩ = some (.slice none 0 0) := Hr_2.out.cell 2
  have r_r3 : v2.cell? ⟨g2, 3, none⟩ = some (.slice none 0 0) := Hr_2.out.cell 3
  have r_r4 : v2.cell? ⟨g2, 4, none⟩ = some (.int .i64 0) := Hr_2.out.cell 4
  have r_r5 : v2.cell? ⟨g2, 5, none⟩ = some (.int .i64 0) := Hr_2.out.cell 5
  have r_r6 : v2.cell? ⟨g2, 6, none⟩ = some (.int .i64 0) := Hr_2.out.cell 6
  have z_r0 := Hr_2.out.frozen 0
  have z_r1 := Hr_2.out.frozen 1
  have z_r2 := Hr_2.out.frozen 2
  have z_r3 := Hr_2.out.frozen 3
  have z_r4 := Hr_2.out.frozen 4
  have z_r5 := Hr_2.out.frozen 5
  have z_r6 := Hr_2.out.frozen 6
  go_wp2_with fail
  refine calls_named ?_
  rintro v3 hv3
  have f3 : Below w.heap.size w v3 := by rw [hv3]; (repeat' (first | (with_reducible exact Below.refl _ _) | (with_reducible assumption) | (with_reducible refine Below.alloc ?_ ?_ _) | (with_reducible refine Below.drew ?_) | (with_reducible refine Below.setCell ?_ ?_ _) | (with_reducible refine bstep (by assumption) ?_ ?_) | (with_reducible exact Nat.le_refl _) | omega | (simp [*]; done) | (simp [*]; omega)))
  have z3 : v2.heap.size + 1 ≤ v3.heap.size := by rw [hv3]; simp [size_set]
  have HP_3 : Hid (Sl v3 2 A n (PR pl)) := by rw [hv3]; exact (HP_2.out).alloc _
  have HQ_3 : Hid (Sl v3 5 B m (JB ql)) := by rw [hv3]; exact (HQ_2.out).alloc _
  have Ha_3 : Hid (Blk v3 w.heap.size 37 #[.int .i64 i0, .int .i64 t0, .slice A n c, .slice B m d, .int .i64 l0, .int .i64 l1, .int .i64 l2]) := by rw [hv3]; exact (Ha_2.out).alloc _
  have Hb_3 : Hid (Blk v3 g1 43 #[.int .i64 ex, .int .i64 et, .int .i64 ec, .int .i64 es, .int .i64 5, .int .i64 ea, .int .i64 eb, .int .i64 eg, .int .i64 eh]) := by rw [hv3]; exact (Hb_2.out).alloc _
  have Hr_3 : Hid (Blk v3 g2 37 #[.int .i64 0, .int .i64 0, .slice none 0 0, .slice none 0 0, .int .i64 0, .int .i64 0, .int .i64 0]) := by rw [hv3]; exact (Hr_2.out).alloc _
  have Hx_3 : Hid (Row v3 v1.heap.size 106 2 A5 n c5 (PR pl)) := by rw [hv3]; exact (Hx_2.out).alloc _
  have Hy_3 : Hid (Row v3 v1.heap.size 71 5 B5 m d5 (JB ql)) := by rw [hv3]; exact (Hy_2.out).alloc _
  have Hz_3 : Hid (Blk v3 v2.heap.size 37 #[.int .i64 i0, .int .i64 t0, .slice A5 n c5, .slice B5 m d5, .int .i64 l0, .int .i64 l1, .int .i64 l2]) := by rw [hv3]; exact (Blk.new_at _ _ _ _ (by simp [size_set]))
  clear lt_a r_a0 r_a1 r_a2 r_a3 r_a4 r_a5 r_a6 lt_b r_b0 r_b1 r_b2 r_b3 r_b4 r_b5 r_b6 r_b7 r_b8 lt_r r_r0 r_r1 r_r2 r_r3 r_r4 r_r5 r_r6 z_r0 z_r1 z_r2 z_r3 z_r4 z_r5 z_r6
  clear hv3 HP_2 HQ_2 Ha_2 Hb_2 Hr_2 Hx_2 Hy_2
  have lt_a := Ha_3.out.lt
  have r_a0 : v3.cell? ⟨w.heap.size, 0, none⟩ = some (.int .i64 i0) := Ha_3.out.cell 0
  have r_a1 : v3.cell? ⟨w.heap.size, 1, none⟩ = some (.int .i64 t0) := Ha_3.out.cell 1
  have r_a2 : v3.cell? ⟨w.heap.size, 2, none⟩ = some (.slice A n c) := Ha_3.out.cell 2
  have r_a3 : v3.cell? ⟨w.heap.size, 3, none⟩ = some (.slice B m d) := Ha_3.out.cell 3
  have r_a4 : v3.cell? ⟨w.heap.size, 4, none⟩ = some (.int .i64 l0) := Ha_3.out.cell 4
  have r_a5 : v3.cell? ⟨w.heap.size, 5, none⟩ = some (.int .i64 l1) := Ha_3.out.cell 5
  have r_a6 : v3.cell? ⟨w.heap.size, 6, none⟩ = some (.int .i64 l2) := Ha_3.out.cell 6
  have lt_b := Hb_3.out.lt
  have r_b0 : v3.cell? ⟨g1, 0, none⟩ = some (.int .i64 ex) := Hb_3.out.cell 0
  have r_b1 : v3.cell? ⟨g1, 1, none⟩ = some (.int .i64 et) := Hb_3.out.cell 1
  have r_b2 : v3.cell? ⟨g1, 2, none⟩ = some (.int .i64 ec) := Hb_3.out.cell 2
  have r_b3 : v3.cell? ⟨g1, 3, none⟩ = some (.int .i64 es) := Hb_3.out.cell 3
  have r_b4 : v3.cell? ⟨g1, 4, none⟩ = some (.int .i64 5) := Hb_3.out.cell 4
  have r_b5 : v3.cell? ⟨g1, 5, none⟩ = some (.int .i64 ea) := Hb_3.out.cell 5
  have r_b6 : v3.cell? ⟨g1, 6, none⟩ = some (.int .i64 eb) := Hb_3.out.cell 6
  have r_b7 : v3.cell? ⟨g1, 7, none⟩ = some (.int .i64 eg) := Hb_3.out.cell 7
  have r_b8 : v3.cell? ⟨g1, 8, none⟩ = some (.int .i64 eh) := Hb_3.out.cell 8
  have lt_r := Hr_3.out.lt
  have r_r0 : v3.cell? ⟨g2, 0, none⟩ = some (.int .i64 0) := Hr_3.out.cell 0
  have r_r1 : v3.cell? ⟨g2, 1, none⟩ = some (.int .i64 0) := Hr_3.out.cell 1
  have r_r2 : v3.cell? ⟨g2, 2, none⟩ = some (.slice none 0 0) := Hr_3.out.cell 2
  have r_r3 : v3.cell? ⟨g2, 3, none⟩ = some (.slice none 0 0) := Hr_3.out.cell 3
  have r_r4 : v3.cell? ⟨g2, 4, none⟩ = some (.int .i64 0) := Hr_3.out.cell 4
  have r_r5 : v3.cell? ⟨g2, 5, none⟩ = some (.int .i64 0) := Hr_3.out.cell 5
  have r_r6 : v3.cell? ⟨g2, 6, none⟩ = some (.int .i64 0) := Hr_3.out.cell 6
  have z_r0 := Hr_3.out.frozen 0
  have z_r1 := Hr_3.out.frozen 1
  have z_r2 := Hr_3.out.frozen 2
  have z_r3 := Hr_3.out.frozen 3
  have z_r4 := Hr_3.out.frozen 4
  have z_r5 := Hr_3.out.frozen 5
  have z_r6 := Hr_3.out.frozen 6
  have lt_z := Hz_3.out.lt
  have r_z0 : v3.cell? ⟨v2.heap.size, 0, none⟩ = some (.int .i64 i0) := Hz_3.out.cell 0
  have r_z1 : v3.cell? ⟨v2.heap.size, 1, none⟩ = some (.int .i64 t0) := Hz_3.out.cell 1
  have r_z2 : v3.cell? ⟨v2.heap.size, 2, none⟩ = some (.slice A5 n c5) := Hz_3.out.cell 2
  have r_z3 : v3.cell? ⟨v2.heap.size, 3, none⟩ = some (.slice B5 m d5) := Hz_3.out.cell 3
  have r_z4 : v3.cell? ⟨v2.heap.size, 4, none⟩ = some (.int .i64 l0) := Hz_3.out.cell 4
  have r_z5 : v3.cell? ⟨v2.heap.size, 5, none⟩ = some (.int .i64 l1) := Hz_3.out.cell 5
  have r_z6 : v3.cell? ⟨v2.heap.size, 6, none⟩ = some (.int .i64 l2) := Hz_3.out.cell 6
  have z_z0 := Hz_3.out.frozen 0
  have z_z1 := Hz_3.out.frozen 1
  have z_z2 := Hz_3.out.frozen 2
  have z_z3 := Hz_3.out.frozen 3
  have z_z4 := Hz_3.out.frozen 4
  have z_z5 := Hz_3.out.frozen 5
  have z_z6 := Hz_3.out.frozen 6
  have cc := specEffectOf_any A n c B m d i0 t0 l0 l1 l2 pl ql ex et ec es 5 ea eb eg eh v3 HP_3.out HQ_3.out hL.out hR.out hn hm HA.out HB.out _ hx.out
  refine (cc).mono ?_
  rintro e v4 ⟨rfl, b4⟩
  have f4 := bthen f3 b4
  have z4 := b4.size
  have HP_4 := Lib.hid (HP_3.out.below b4)
  have HQ_4 := Lib.hid (HQ_3.out.below b4)
  have Ha_4 := Lib.hid (Ha_3.out.below b4)
  have Hb_4 := Lib.hid (Hb_3.out.below b4)
  have Hr_4 := Lib.hid (Hr_3.out.below b4)
  have Hx_4 := Lib.hid (Hx_3.out.below b4)
  have Hy_4 := Lib.hid (Hy_3.out.below b4)
  have Hz_4 := Lib.hid (Hz_3.out.below b4)
  clear lt_a r_a0 r_a1 r_a2 r_a3 r_a4 r_a5 r_a6 lt_b r_b0 r_b1 r_b2 r_b3 r_b4 r_b5 r_b6 r_b7 r_b8 lt_r r_r0 r_r1 r_r2 r_r3 r_r4 r_r5 r_r6 z_r0 z_r1 z_r2 z_r3 z_r4 z_r5 z_r6 lt_z r_z0 r_z1 r_z2 r_z3 r_z4 r_z5 r_z6 z_z0 z_z1 z_z2 z_z3 z_z4 z_z5 z_z6
  clear HP_3 HQ_3 Ha_3 Hb_3 Hr_3 Hx_3 Hy_3 Hz_3
  clear cc
  have lt_a := Ha_4.out.lt
  have r_a0 : v4.cell? ⟨w.heap.size, 0, none⟩ = some (.int .i64 i0) := Ha_4.out.cell 0
  have r_a1 : v4.cell? ⟨w.heap.size, 1, none⟩ = some (.int .i64 t0) := Ha_4.out.cell 1
  have r_a2 : v4.cell? ⟨w.heap.size, 2, none⟩ = some (.slice A n c) := Ha_4.out.cell 2
  have r_a3 : v4.cell? ⟨w.heap.size, 3, none⟩ = some (.slice B m d) := Ha_4.out.cell 3
  have r_a4 : v4.cell? ⟨w.heap.size, 4, none⟩ = some (.int .i64 l0) := Ha_4.out.cell 4
  have r_a5 : v4.cell? ⟨w.heap.size, 5, none⟩ = some (.int .i64 l1) := Ha_4.out.cell 5
  have r_a6 : v4.cell? ⟨w.heap.size, 6, none⟩ = some (.int .i64 l2) := Ha_4.out.cell 6
  have lt_b := Hb_4.out.lt
  have r_b0 : v4.cell? ⟨g1, 0, none⟩ = some (.int .i64 ex) := Hb_4.out.cell 0
  have r_b1 : v4.cell? ⟨g1, 1, none⟩ = some (.int .i64 et) := Hb_4.out.cell 1
  have r_b2 : v4.cell? ⟨g1, 2, none⟩ = some (.int .i64 ec) := Hb_4.out.cell 2
  have r_b3 : v4.cell? ⟨g1, 3, none⟩ = some (.int .i64 es) := Hb_4.out.cell 3
  have r_b4 : v4.cell? ⟨g1, 4, none⟩ = some (.int .i64 5) := Hb_4.out.cell 4
  have r_b5 : v4.cell? ⟨g1, 5, none⟩ = some (.int .i64 ea) := Hb_4.out.cell 5
  have r_b6 : v4.cell? ⟨g1, 6, none⟩ = some (.int .i64 eb) := Hb_4.out.cell 6
  have r_b7 : v4.cell? ⟨g1, 7, none⟩ = some (.int .i64 eg) := Hb_4.out.cell 7
  have r_b8 : v4.cell? ⟨g1, 8, none⟩ = some (.int .i64 eh) := Hb_4.out.cell 8
  have lt_r := Hr_4.out.lt
  have r_r0 : v4.cell? ⟨g2, 0, none⟩ = some (.int .i64 0) := Hr_4.out.cell 0
  have r_r1 : v4.cell? ⟨g2, 1, none⟩ = some (.int .i64 0) := Hr_4.out.cell 1
  have r_r2 : v4.cell? ⟨g2, 2, none⟩ = some (.slice none 0 0) := Hr_4.out.cell 2
  have r_r3 : v4.cell? ⟨g2, 3, none⟩ = some (.slice none 0 0) := Hr_4.out.cell 3
  have r_r4 : v4.cell? ⟨g2, 4, none⟩ = some (.int .i64 0) := Hr_4.out.cell 4
  have r_r5 : v4.cell? ⟨g2, 5, none⟩ = some (.int .i64 0) := Hr_4.out.cell 5
  have r_r6 : v4.cell? ⟨g2, 6, none⟩ = some (.int .i64 0) := Hr_4.out.cell 6
  have z_r0 := Hr_4.out.frozen 0
  have z_r1 := Hr_4.out.frozen 1
  have z_r2 := Hr_4.out.frozen 2
  have z_r3 := Hr_4.out.frozen 3
  have z_r4 := Hr_4.out.frozen 4
  have z_r5 := Hr_4.out.frozen 5
  have z_r6 := Hr_4.out.frozen 6
  have lt_z := Hz_4.out.lt
  have r_z0 : v4.cell? ⟨v2.heap.size, 0, none⟩ = some (.int .i64 i0) := Hz_4.out.cell 0
  have r_z1 : v4.cell? ⟨v2.heap.size, 1, none⟩ = some (.int .i64 t0) := Hz_4.out.cell 1
  have r_z2 : v4.cell? ⟨v2.heap.size, 2, none⟩ = some (.slice A5 n c5) := Hz_4.out.cell 2
  have r_z3 : v4.cell? ⟨v2.heap.size, 3, none⟩ = some (.slice B5 m d5) := Hz_4.out.cell 3
  have r_z4 : v4.cell? ⟨v2.heap.size, 4, none⟩ = some (.int .i64 l0) := Hz_4.out.cell 4
  have r_z5 : v4.cell? ⟨v2.heap.size, 5, none⟩ = some (.int .i64 l1) := Hz_4.out.cell 5
  have r_z6 : v4.cell? ⟨v2.heap.size, 6, none⟩ = some (.int .i64 l2) := Hz_4.out.cell 6
  have z_z0 := Hz_4.out.frozen 0
  have z_z1 := Hz_4.out.frozen 1
  have z_z2 := Hz_4.out.frozen 2
  have z_z3 := Hz_4.out.frozen 3
  have z_z4 := Hz_4.out.frozen 4
  have z_z5 := Hz_4.out.frozen 5
  have z_z6 := Hz_4.out.frozen 6
  go_wp2_with fail
  refine calls_named ?_
  rintro v5 hv5
  have f5 : Below w.heap.size w v5 := by rw [hv5]; (repeat' (first | (with_reducible exact Below.refl _ _) | (with_reducible assumption) | (with_reducible refine Below.alloc ?_ ?_ _) | (with_reducible refine Below.drew ?_) | (with_reducible refine Below.setCell ?_ ?_ _) | (with_reducible refine bstep (by assumption) ?_ ?_) | (with_reducible exact Nat.le_refl _) | omega | (simp [*]; done) | (simp [*]; omega)))
  have z5 : v4.heap.size + 0 ≤ v5.heap.size := by rw [hv5]; simp [size_set]
  have HP_5 : Hid (Sl v5 2 A n (PR pl)) := by rw [hv5]; exact ((HP_4.out).far (p := ⟨v2.heap.size, 0, none⟩) (fun hn a ha => by have := HP_lt.out hn a ha; show a.block ≠ v2.heap.size; omega) _).far (p := ⟨v2.heap.size, 1, none⟩) (fun hn a ha => by have := HP_lt.out hn a ha; show a.block ≠ v2.heap.size; omega) _
  have HQ_5 : Hid (Sl v5 5 B m (JB ql)) := by rw [hv5]; exact ((HQ_4.out).far (p := ⟨v2.heap.size, 0, none⟩) (fun hn a ha => by have := HQ_lt.out hn a ha; show a.block ≠ v2.heap.size; omega) _).far (p := ⟨v2.heap.size, 1, none⟩) (fun hn a ha => by have := HQ_lt.out hn a ha; show a.block ≠ v2.heap.size; omega) _
  have Ha_5 : Hid (Blk v5 w.heap.size 37 #[.int .i64 i0, .int .i64 t0, .slice A n c, .slice B m d, .int .i64 l0, .int .i64 l1, .int .i64 l2]) := by rw [hv5]; exact ((Ha_4.out).far (p := ⟨v2.heap.size, 0, none⟩) (show w.heap.size ≠ v2.heap.size by omega) _).far (p := ⟨v2.heap.size, 1, none⟩) (show w.heap.size ≠ v2.heap.size by omega) _
  have Hb_5 : Hid (Blk v5 g1 43 #[.int .i64 ex, .int .i64 et, .int .i64 ec, .int .i64 es, .int .i64 5, .int .i64 ea, .int .i64 eb, .int .i64 eg, .int .i64 eh]) := by rw [hv5]; exact ((Hb_4.out).far (p := ⟨v2.heap.size, 0, none⟩) (show g1 ≠ v2.heap.size by omega) _).far (p := ⟨v2.heap.size, 1, none⟩) (show g1 ≠ v2.heap.size by omega) _
  have Hr_5 : Hid (Blk v5 g2 37 #[.int .i64 0, .int .i64 0, .slice none 0 0, .slice none 0 0, .int .i64 0, .int .i64 0, .int .i64 0]) := by rw [hv5]; exact ((Hr_4.out).far (p := ⟨v2.heap.size, 0, none⟩) (show g2 ≠ v2.heap.size by omega) _).far (p := ⟨v2.heap.size, 1, none⟩) (show g2 ≠ v2.heap.size by omega) _
  have Hx_5 : Hid (Row v5 v1.heap.size 106 2 A5 n c5 (PR pl)) := by rw [hv5]; exact ((Hx_4.out).far (p := ⟨v2.heap.size, 0, none⟩) (fun a ha => by have := Lx.out a ha; show a.block ≠ v2.heap.size; omega) _).far (p := ⟨v2.heap.size, 1, none⟩) (fun a ha => by have := Lx.out a ha; show a.block ≠ v2.heap.size; omega) _
  have Hy_5 : Hid (Row v5 v1.heap.size 71 5 B5 m d5 (JB ql)) := by rw [hv5]; exact ((Hy_4.out).far (p := ⟨v2.heap.size, 0, none⟩) (fun a ha => by have := Ly.out a ha; show a.block ≠ v2.heap.size; omega) _).far (p := ⟨v2.heap.size, 1, none⟩) (fun a ha => by have := Ly.out a ha; show a.block ≠ v2.heap.size; omega) _
  have Hz_5 : Hid (Blk v5 v2.heap.size 37 #[.int .i64 ex, .int .i64 et, .slice A5 n c5, .slice B5 m d5, .int .i64 l0, .int .i64 l1, .int .i64 l2]) := by rw [hv5]; exact ((Hz_4.out).set_ 0 _).set_ 1 _
  clear lt_a r_a0 r_a1 r_a2 r_a3 r_a4 r_a5 r_a6 lt_b r_b0 r_b1 r_b2 r_b3 r_b4 r_b5 r_b6 r_b7 r_b8 lt_r r_r0 r_r1 r_r2 r_r3 r_r4 r_r5 r_r6 z_r0 z_r1 z_r2 z_r3 z_r4 z_r5 z_r6 lt_z r_z0 r_z1 r_z2 r_z3 r_z4 r_z5 r_z6 z_z0 z_z1 z_z2 z_z3 z_z4 z_z5 z_z6
  clear hv5 HP_4 HQ_4 Ha_4 Hb_4 Hr_4 Hx_4 Hy_4 Hz_4
  have lt_a := Ha_5.out.lt
  have r_a0 : v5.cell? ⟨w.heap.size, 0, none⟩ = some (.int .i64 i0) := Ha_5.out.cell 0
  have r_a1 : v5.cell? ⟨w.heap.size, 1, none⟩ = some (.int .i64 t0) := Ha_5.out.cell 1
  have r_a2 : v5.cell? ⟨w.heap.size, 2, none⟩ = some (.slice A n c) := Ha_5.out.cell 2
  have r_a3 : v5.cell? ⟨w.heap.size, 3, none⟩ = some (.slice B m d) := Ha_5.out.cell 3
  have r_a4 : v5.cell? ⟨w.heap.size, 4, none⟩ = some (.int .i64 l0) := Ha_5.out.cell 4
  have r_a5 : v5.cell? ⟨w.heap.size, 5, none⟩ = some (.int .i64 l1) := Ha_5.out.cell 5
  have r_a6 : v5.cell? ⟨w.heap.size, 6, none⟩ = some (.int .i64 l2) := Ha_5.out.cell 6
  have lt_b := Hb_5.out.lt
  have r_b0 : v5.cell? ⟨g1, 0, none⟩ = some (.int .i64 ex) := Hb_5.out.cell 0
  have r_b1 : v5.cell? ⟨g1, 1, none⟩ = some (.int .i64 et) := Hb_5.out.cell 1
  have r_b2 : v5.cell? ⟨g1, 2, none⟩ = some (.int .i64 ec) := Hb_5.out.cell 2
  have r_b3 : v5.cell? ⟨g1, 3, none⟩ = some (.int .i64 es) := Hb_5.out.cell 3
  have r_b4 : v5.cell? ⟨g1, 4, none⟩ = some (.int .i64 5) := Hb_5.out.cell 4
  have r_b5 : v5.cell? ⟨g1, 5, none⟩ = some (.int .i64 ea) := Hb_5.out.cell 5
  have r_b6 : v5.cell? ⟨g1, 6, none⟩ = some (.int .i64 eb) := Hb_5.out.cell 6
  have r_b7 : v5.cell? ⟨g1, 7, none⟩ = some (.int .i64 eg) := Hb_5.out.cell 7
  have r_b8 : v5.cell? ⟨g1, 8, none⟩ = some (.int .i64 eh) := Hb_5.out.cell 8
  have lt_r := Hr_5.out.lt
  have r_r0 : v5.cell? ⟨g2, 0, none⟩ = some (.int .i64 0) := Hr_5.out.cell 0
  have r_r1 : v5.cell? ⟨g2, 1, none⟩ = some (.int .i64 0) := Hr_5.out.cell 1
  have r_r2 : v5.cell? ⟨g2, 2, none⟩ = some (.slice none 0 0) := Hr_5.out.cell 2
  have r_r3 : v5.cell? ⟨g2, 3, none⟩ = some (.slice none 0 0) := Hr_5.out.cell 3
  have r_r4 : v5.cell? ⟨g2, 4, none⟩ = some (.int .i64 0) := Hr_5.out.cell 4
  have r_r5 : v5.cell? ⟨g2, 5, none⟩ = some (.int .i64 0) := Hr_5.out.cell 5
  have r_r6 : v5.cell? ⟨g2, 6, none⟩ = some (.int .i64 0) := Hr_5.out.cell 6
  have z_r0 := Hr_5.out.frozen 0
  have z_r1 := Hr_5.out.frozen 1
  have z_r2 := Hr_5.out.frozen 2
  have z_r3 := Hr_5.out.frozen 3
  have z_r4 := Hr_5.out.frozen 4
  have z_r5 := Hr_5.out.frozen 5
  have z_r6 := Hr_5.out.frozen 6
  have lt_z := Hz_5.out.lt
  have r_z0 : v5.cell? ⟨v2.heap.size, 0, none⟩ = some (.int .i64 ex) := Hz_5.out.cell 0
  have r_z1 : v5.cell? ⟨v2.heap.size, 1, none⟩ = some (.int .i64 et) := Hz_5.out.cell 1
  have r_z2 : v5.cell? ⟨v2.heap.size, 2, none⟩ = some (.slice A5 n c5) := Hz_5.out.cell 2
  have r_z3 : v5.cell? ⟨v2.heap.size, 3, none⟩ = some (.slice B5 m d5) := Hz_5.out.cell 3
  have r_z4 : v5.cell? ⟨v2.heap.size, 4, none⟩ = some (.int .i64 l0) := Hz_5.out.cell 4
  have r_z5 : v5.cell? ⟨v2.heap.size, 5, none⟩ = some (.int .i64 l1) := Hz_5.out.cell 5
  have r_z6 : v5.cell? ⟨v2.heap.size, 6, none⟩ = some (.int .i64 l2) := Hz_5.out.cell 6
  have z_z0 := Hz_5.out.frozen 0
  have z_z1 := Hz_5.out.frozen 1
  have z_z2 := Hz_5.out.frozen 2
  have z_z3 := Hz_5.out.frozen 3
  have z_z4 := Hz_5.out.frozen 4
  have z_z5 := Hz_5.out.frozen 5
  have z_z6 := Hz_5.out.frozen 6
  have cc := specGranted_any l0 l1 l2 ec et ea v5
  rw [hv.out] at cc
  replace cc : Calls _ _ _ _ (fun e w1 => e = .returned (.tuple #[.agg #[.int .i64 h2, .int .i64 e2, .int .i64 u2], .bool ok]) ∧ Below v5.heap.size v5 w1) := cc
  refine (cc).mono ?_
  rintro e v6 ⟨rfl, b6⟩
  have f6 := bthen f5 b6
  have z6 := b6.size
  have HP_6 := Lib.hid (HP_5.out.below b6)
  have HQ_6 := Lib.hid (HQ_5.out.below b6)
  have Ha_6 := Lib.hid (Ha_5.out.below b6)
  have Hb_6 := Lib.hid (Hb_5.out.below b6)
  have Hr_6 := Lib.hid (Hr_5.out.below b6)
  have Hx_6 := Lib.hid (Hx_5.out.below b6)
  have Hy_6 := Lib.hid (Hy_5.out.below b6)
  have Hz_6 := Lib.hid (Hz_5.out.below b6)
  clear lt_a r_a0 r_a1 r_a2 r_a3 r_a4 r_a5 r_a6 lt_b r_b0 r_b1 r_b2 r_b3 r_b4 r_b5 r_b6 r_b7 r_b8 lt_r r_r0 r_r1 r_r2 r_r3 r_r4 r_r5 r_r6 z_r0 z_r1 z_r2 z_r3 z_r4 z_r5 z_r6 lt_z r_z0 r_z1 r_z2 r_z3 r_z4 r_z5 r_z6 z_z0 z_z1 z_z2 z_z3 z_z4 z_z5 z_z6
  clear HP_5 HQ_5 Ha_5 Hb_5 Hr_5 Hx_5 Hy_5 Hz_5
  clear cc
  have lt_a := Ha_6.out.lt
  have r_a0 : v6.cell? ⟨w.heap.size, 0, none⟩ = some (.int .i64 i0) := Ha_6.out.cell 0
  have r_a1 : v6.cell? ⟨w.heap.size, 1, none⟩ = some (.int .i64 t0) := Ha_6.out.cell 1
  have r_a2 : v6.cell? ⟨w.heap.size, 2, none⟩ = some (.slice A n c) := Ha_6.out.cell 2
  have r_a3 : v6.cell? ⟨w.heap.size, 3, none⟩ = some (.slice B m d) := Ha_6.out.cell 3
  have r_a4 : v6.cell? ⟨w.heap.size, 4, none⟩ = some (.int .i64 l0) := Ha_6.out.cell 4
  have r_a5 : v6.cell? ⟨w.heap.size, 5, none⟩ = some (.int .i64 l1) := Ha_6.out.cell 5
  have r_a6 : v6.cell? ⟨w.heap.size, 6, none⟩ = some (.int .i64 l2) := Ha_6.out.cell 6
  have lt_b := Hb_6.out.lt
  have r_b0 : v6.cell? ⟨g1, 0, none⟩ = some (.int .i64 ex) := Hb_6.out.cell 0
  have r_b1 : v6.cell? ⟨g1, 1, none⟩ = some (.int .i64 et) := Hb_6.out.cell 1
  have r_b2 : v6.cell? ⟨g1, 2, none⟩ = some (.int .i64 ec) := Hb_6.out.cell 2
  have r_b3 : v6.cell? ⟨g1, 3, none⟩ = some (.int .i64 es) := Hb_6.out.cell 3
  have r_b4 : v6.cell? ⟨g1, 4, none⟩ = some (.int .i64 5) := Hb_6.out.cell 4
  have r_b5 : v6.cell? ⟨g1, 5, none⟩ = some (.int .i64 ea) := Hb_6.out.cell 5
  have r_b6 : v6.cell? ⟨g1, 6, none⟩ = some (.int .i64 eb) := Hb_6.out.cell 6
  have r_b7 : v6.cell? ⟨g1, 7, none⟩ = some (.int .i64 eg) := Hb_6.out.cell 7
  have r_b8 : v6.cell? ⟨g1, 8, none⟩ = some (.int .i64 eh) := Hb_6.out.cell 8
  have lt_r := Hr_6.out.lt
  have r_r0 : v6.cell? ⟨g2, 0, none⟩ = some (.int .i64 0) := Hr_6.out.cell 0
  have r_r1 : v6.cell? ⟨g2, 1, none⟩ = some (.int .i64 0) := Hr_6.out.cell 1
  have r_r2 : v6.cell? ⟨g2, 2, none⟩ = some (.slice none 0 0) := Hr_6.out.cell 2
  have r_r3 : v6.cell? ⟨g2, 3, none⟩ = some (.slice none 0 0) := Hr_6.out.cell 3
  have r_r4 : v6.cell? ⟨g2, 4, none⟩ = some (.int .i64 0) := Hr_6.out.cell 4
  have r_r5 : v6.cell? ⟨g2, 5, none⟩ = some (.int .i64 0) := Hr_6.out.cell 5
  have r_r6 : v6.cell? ⟨g2, 6, none⟩ = some (.int .i64 0) := Hr_6.out.cell 6
  have z_r0 := Hr_6.out.frozen 0
  have z_r1 := Hr_6.out.frozen 1
  have z_r2 := Hr_6.out.frozen 2
  have z_r3 := Hr_6.out.frozen 3
  have z_r4 := Hr_6.out.frozen 4
  have z_r5 := Hr_6.out.frozen 5
  have z_r6 := Hr_6.out.frozen 6
  have lt_z := Hz_6.out.lt
  have r_z0 : v6.cell? ⟨v2.heap.size, 0, none⟩ = some (.int .i64 ex) := Hz_6.out.cell 0
  have r_z1 : v6.cell? ⟨v2.heap.size, 1, none⟩ = some (.int .i64 et) := Hz_6.out.cell 1
  have r_z2 : v6.cell? ⟨v2.heap.size, 2, none⟩ = some (.slice A5 n c5) := Hz_6.out.cell 2
  have r_z3 : v6.cell? ⟨v2.heap.size, 3, none⟩ = some (.slice B5 m d5) := Hz_6.out.cell 3
  have r_z4 : v6.cell? ⟨v2.heap.size, 4, none⟩ = some (.int .i64 l0) := Hz_6.out.cell 4
  have r_z5 : v6.cell? ⟨v2.heap.size, 5, none⟩ = some (.int .i64 l1) := Hz_6.out.cell 5
  have r_z6 : v6.cell? ⟨v2.heap.size, 6, none⟩ = some (.int .i64 l2) := Hz_6.out.cell 6
  have z_z0 := Hz_6.out.frozen 0
  have z_z1 := Hz_6.out.frozen 1
  have z_z2 := Hz_6.out.frozen 2
  have z_z3 := Hz_6.out.frozen 3
  have z_z4 := Hz_6.out.frozen 4
  have z_z5 := Hz_6.out.frozen 5
  have z_z6 := Hz_6.out.frozen 6
  go_wp21
  refine bodyPost_ret (v := .tuple #[.agg #[.int .i64 ex, .int .i64 et, .slice A5 n c5, .slice B5 m d5, .int .i64 h2, .int .i64 e2, .int .i64 u2], .bool true]) (by simp [results, Tryz.results7, go_sem, *]) rfl ?_
  have nx : ∀ a, A5 = some a → a.block ≠ g2 := fun a ha => by have := Hx_6.out.ge a ha; omega
  have nzx : ∀ a, A5 = some a → a.block ≠ v2.heap.size := fun a ha => by have := Lx.out a ha; omega
  have ny : ∀ a, B5 = some a → a.block ≠ g2 := fun a ha => by have := Hy_6.out.ge a ha; omega
  have nzy : ∀ a, B5 = some a → a.block ≠ v2.heap.size := fun a ha => by have := Ly.out a ha; omega
  exact RetStateV.mk hL.out hR.out (row_far7 (((((Hx_6.out).far (p := ⟨v2.heap.size, 4, none⟩) nzx _).far (p := ⟨v2.heap.size, 5, none⟩) nzx _).far (p := ⟨v2.heap.size, 6, none⟩) nzx _).mono (by omega)) nx _ _ _ _ _ _ _) (row_far7 (((((Hy_6.out).far (p := ⟨v2.heap.size, 4, none⟩) nzy _).far (p := ⟨v2.heap.size, 5, none⟩) nzy _).far (p := ⟨v2.heap.size, 6, none⟩) nzy _).mono (by omega)) ny _ _ _ _ _ _ _) HAP.out (by (repeat' (first | (with_reducible exact Below.refl _ _) | (with_reducible assumption) | (with_reducible refine Below.alloc ?_ ?_ _) | (with_reducible refine Below.drew ?_) | (with_reducible refine Below.setCell ?_ ?_ _) | (with_reducible refine bstep (by assumption) ?_ ?_) | (with_reducible exact Nat.le_refl _) | omega | (simp [*]; done) | (simp [*]; omega))))
end Go.Proofs.YtokklkmibjpjnaaGreat

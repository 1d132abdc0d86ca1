/- The law's own helpers on slices of Entry: sz, to, eq, mark, held. -/
import Derived.Test.YtodkcanhlpgpgaaA1
import Derived.Test.YtodkcanhlpgpgaaMem
import Derived.Test.YtodkcanhlpgpgaaSOp
import Derived.Test.YtodkcanhlpgpgaaBk
namespace Go.Proofs.Ytodkcanhlpgpgaa
set_option linter.unusedSimpArgs false
set_option linter.unusedVariables false
attribute [local go_sem] n_lt2 n_lt3 n_lt4 n_le2 n_le3
open Go.RowKit
attribute [local go_sem] Ext.cell Ext.frozen
set_option maxRecDepth 100000 in
set_option maxHeartbeats 8000000 in
theorem toEntry_any (a0 a1 a2 a3 a4 a5 a6 a7 a8 : Int) (w : World) :
    Calls Try.prog 18 #[.agg #[.int .i64 a0, .int .i64 a1, .int .i64 a2, .int .i64 a3, .int .i64 a4, .int .i64 a5, .int .i64 a6, .int .i64 a7, .int .i64 a8]] w fun e' w' => e' = .returned (.agg #[.int .i64 a0, .int .i64 a1, .int .i64 a2, .int .i64 a3, .int .i64 a4, .int .i64 a5, .int .i64 a6, .int .i64 a7, .int .i64 a8]) ∧ Below w.heap.size w w' := by
  go_enter Try.func18, Try.ntmps18
  go_wp2_with fail
  refine calls_named ?_
  rintro v0 hv0
  have f0 : Below w.heap.size w v0 := by rw [hv0]; (repeat' (first | (with_reducible exact Below.refl _ _) | (with_reducible assumption) | (with_reducible refine Below.alloc ?_ ?_ _) | (with_reducible refine Below.drew ?_) | (with_reducible refine Below.setCell ?_ ?_ _) | (with_reducible refine bstep (by assumption) ?_ ?_) | (with_reducible exact Nat.le_refl _) | omega | (simp [*]; done) | (simp [*]; omega)))
  have z0 : w.heap.size + 3 ≤ v0.heap.size := by rw [hv0]; simp [size_set]
  have Ha_0 : Hid (Blk v0 w.heap.size 42 #[.int .i64 a0, .int .i64 a1, .int .i64 a2, .int .i64 a3, .int .i64 a4, .int .i64 a5, .int .i64 a6, .int .i64 a7, .int .i64 a8]) := by rw [hv0]; exact ((Blk.new_at _ _ _ _ (by simp)).alloc _).alloc _
  have Hr_0 : Hid (Blk v0 (w.heap.size + 1) 46 #[.int .i64 0, .int .i64 0, .int .i64 0, .int .i64 0, .int .i64 0, .int .i64 0, .int .i64 0, .int .i64 0, .int .i64 0]) := by rw [hv0]; exact (Blk.new_at _ _ _ _ (by simp)).alloc _
  have Ho_0 : Hid (Blk v0 (w.heap.size + 1 + 1) 46 #[.int .i64 a0, .int .i64 a1, .int .i64 a2, .int .i64 a3, .int .i64 0, .int .i64 0, .int .i64 0, .int .i64 0, .int .i64 0]) := by rw [hv0]; exact Blk.new_at _ _ _ _ (by simp)
  clear hv0
  generalize hg2 : w.heap.size + 1 + 1 = g2 at *
  generalize hg1 : w.heap.size + 1 = g1 at *
  have lg1 : w.heap.size < g1 := by omega
  have lg2 : g1 < g2 := by omega
  have lgz : g2 < v0.heap.size := by omega
  have nq1x0 : ¬ g1 = w.heap.size := by omega
  have nq0x1 : ¬ w.heap.size = g1 := by omega
  have nq2x0 : ¬ g2 = w.heap.size := by omega
  have nq0x2 : ¬ w.heap.size = g2 := by omega
  have nq2x1 : ¬ g2 = g1 := by omega
  have nq1x2 : ¬ g1 = g2 := by omega
  clear hg1 hg2
  refine (toOp_any a4 a5 a6 a7 a8 _).mono ?_
  rintro e v1 ⟨rfl, b1⟩
  have f1 := bthen f0 b1
  have z1 := b1.size
  have Ha_1 := Lib.hid (Ha_0.out.below b1)
  have Hr_1 := Lib.hid (Hr_0.out.below b1)
  have Ho_1 := Lib.hid (Ho_0.out.below b1)
  clear Ha_0 Hr_0 Ho_0
  have lt_a := Ha_1.out.lt
  have r_a0 : v1.cell? ⟨w.heap.size, 0, none⟩ = some (.int .i64 a0) := Ha_1.out.cell 0
  have r_a1 : v1.cell? ⟨w.heap.size, 1, none⟩ = some (.int .i64 a1) := Ha_1.out.cell 1
  have r_a2 : v1.cell? ⟨w.heap.size, 2, none⟩ = some (.int .i64 a2) := Ha_1.out.cell 2
  have r_a3 : v1.cell? ⟨w.heap.size, 3, none⟩ = some (.int .i64 a3) := Ha_1.out.cell 3
  have r_a4 : v1.cell? ⟨w.heap.size, 4, none⟩ = some (.int .i64 a4) := Ha_1.out.cell 4
  have r_a5 : v1.cell? ⟨w.heap.size, 5, none⟩ = some (.int .i64 a5) := Ha_1.out.cell 5
  have r_a6 : v1.cell? ⟨w.heap.size, 6, none⟩ = some (.int .i64 a6) := Ha_1.out.cell 6
  have r_a7 : v1.cell? ⟨w.heap.size, 7, none⟩ = some (.int .i64 a7) := Ha_1.out.cell 7
  have r_a8 : v1.cell? ⟨w.heap.size, 8, none⟩ = some (.int .i64 a8) := Ha_1.out.cell 8
  have z_o0 := Ho_1.out.frozen 0
  have z_o1 := Ho_1.out.frozen 1
  have z_o2 := Ho_1.out.frozen 2
  have z_o3 := Ho_1.out.frozen 3
  have z_o4 := Ho_1.out.frozen 4
  have z_o5 := Ho_1.out.frozen 5
  have z_o6 := Ho_1.out.frozen 6
  have z_o7 := Ho_1.out.frozen 7
  have z_o8 := Ho_1.out.frozen 8
  have lt_o := Ho_1.out.lt
  have r_o0 : v1.cell? ⟨g2, 0, none⟩ = some (.int .i64 a0) := Ho_1.out.cell 0
  have r_o1 : v1.cell? ⟨g2, 1, none⟩ = some (.int .i64 a1) := Ho_1.out.cell 1
  have r_o2 : v1.cell? ⟨g2, 2, none⟩ = some (.int .i64 a2) := Ho_1.out.cell 2
  have r_o3 : v1.cell? ⟨g2, 3, none⟩ = some (.int .i64 a3) := Ho_1.out.cell 3
  have r_o4 : v1.cell? ⟨g2, 4, none⟩ = some (.int .i64 0) := Ho_1.out.cell 4
  have r_o5 : v1.cell? ⟨g2, 5, none⟩ = some (.int .i64 0) := Ho_1.out.cell 5
  have r_o6 : v1.cell? ⟨g2, 6, none⟩ = some (.int .i64 0) := Ho_1.out.cell 6
  have r_o7 : v1.cell? ⟨g2, 7, none⟩ = some (.int .i64 0) := Ho_1.out.cell 7
  have r_o8 : v1.cell? ⟨g2, 8, none⟩ = some (.int .i64 0) := Ho_1.out.cell 8
  have z_r0 := Hr_1.out.frozen 0
  have z_r1 := Hr_1.out.frozen 1
  have z_r2 := Hr_1.out.frozen 2
  have z_r3 := Hr_1.out.frozen 3
  have z_r4 := Hr_1.out.frozen 4
  have z_r5 := Hr_1.out.frozen 5
  have z_r6 := Hr_1.out.frozen 6
  have z_r7 := Hr_1.out.frozen 7
  have z_r8 := Hr_1.out.frozen 8
  have lt_r := Hr_1.out.lt
  have r_r0 : v1.cell? ⟨g1, 0, none⟩ = some (.int .i64 0) := Hr_1.out.cell 0
  have r_r1 : v1.cell? ⟨g1, 1, none⟩ = some (.int .i64 0) := Hr_1.out.cell 1
  have r_r2 : v1.cell? ⟨g1, 2, none⟩ = some (.int .i64 0) := Hr_1.out.cell 2
  have r_r3 : v1.cell? ⟨g1, 3, none⟩ = some (.int .i64 0) := Hr_1.out.cell 3
  have r_r4 : v1.cell? ⟨g1, 4, none⟩ = some (.int .i64 0) := Hr_1.out.cell 4
  have r_r5 : v1.cell? ⟨g1, 5, none⟩ = some (.int .i64 0) := Hr_1.out.cell 5
  have r_r6 : v1.cell? ⟨g1, 6, none⟩ = some (.int .i64 0) := Hr_1.out.cell 6
  have r_r7 : v1.cell? ⟨g1, 7, none⟩ = some (.int .i64 0) := Hr_1.out.cell 7
  have r_r8 : v1.cell? ⟨g1, 8, none⟩ = some (.int .i64 0) := Hr_1.out.cell 8
  go_wp21
  refine bodyPost_ret (v := .agg #[.int .i64 a0, .int .i64 a1, .int .i64 a2, .int .i64 a3, .int .i64 a4, .int .i64 a5, .int .i64 a6, .int .i64 a7, .int .i64 a8]) (by simp [results, Try.results18, go_sem, *]) rfl ⟨rfl, ?_⟩
  (repeat' (first | (with_reducible exact Below.refl _ _) | (with_reducible assumption) | (with_reducible refine Below.alloc ?_ ?_ _) | (with_reducible refine Below.drew ?_) | (with_reducible refine Below.setCell ?_ ?_ _) | (with_reducible refine bstep (by assumption) ?_ ?_) | (with_reducible exact Nat.le_refl _) | omega | (simp [*]; done) | (simp [*]; omega)))


theorem info_Entry : (Try.prog.info? 46).map (fun i => (i.zero, i.size, i.bytes)) = some (some (.agg #[.int .i64 0, .int .i64 0, .int .i64 0, .int .i64 0, .int .i64 0, .int .i64 0, .int .i64 0, .int .i64 0, .int .i64 0]), 9, 72) := by kernel_rfl





end Go.Proofs.Ytodkcanhlpgpgaa

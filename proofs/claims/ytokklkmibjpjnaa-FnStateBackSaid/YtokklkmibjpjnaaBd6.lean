/- Part 6 of what the claim rests on: D4, SG3, SG4, P2, J3, S2, P6, Lease7, S5, NumL, P9, TP. No condition of its own. -/
import Derived.Test.YtokklkmibjpjnaaBd5
import Derived.Deep.DeepCutAuto
import Derived.Deep.RegionHeldLaw
import Derived.Deep.CutBlock
import Derived.Deep.AppendLies
namespace Go.Proofs.Ytokklkmibjpjnaa
set_option linter.unusedSimpArgs false
set_option linter.unusedVariables false
attribute [local go_sem] n_lt2 n_lt3 n_lt4 n_le2 n_le3
open Go.RowKit
attribute [local go_sem] Ext.cell Ext.frozen
set_option maxRecDepth 100000 in
set_option maxHeartbeats 4000000 in
theorem l15DrawJob_any (p : Nat) (w : World) (hL : LC w p 74) : Calls Try.prog 85 #[.pointer (some ⟨p, 0, none⟩)] w (fun e w' => ∃ a b c d f, e = .returned (.agg #[.int .i64 a, .int .i64 b, .int .i64 c, .int .i64 d, .int .i64 f]) ∧ LC w' p 74 ∧ Wrote w w' (some ⟨p, 0, none⟩)) := by
  have HL_0 := Lib.hid hL
  have hp := hL.lt
  clear hL
  have HW_0 : Hid (Wrote w w (some ⟨p, 0, none⟩)) := Lib.hid (wrote_refl _ _)
  have hz_0 : w.heap.size ≤ w.heap.size := Nat.le_refl _
  go_enter Try.func85, Try.ntmps85
  go_wp2_with fail
  refine calls_named ?_
  rintro v1 hv1
  have hz_1 : w.heap.size ≤ v1.heap.size := by rw [hv1]; (try simp only [size_set, World.size_alloc]); omega
  have hy_1 : w.heap.size + 1 ≤ v1.heap.size := by rw [hv1]; (try simp only [size_set, World.size_alloc]); omega
  have HB_1 : Hid (Below w.heap.size w v1) := by rw [hv1]; exact (Below.refl w.heap.size w).alloc (by (try simp only [size_set, World.size_alloc]); omega) _
  have HW_1 : Hid (Wrote w v1 (some ⟨p, 0, none⟩)) := Lib.hid (wrote_grow HW_0.out HB_1.out (Nat.le_refl _))
  have HL_1 : Hid (LC v1 p 74) := Lib.hid (HL_0.out.below HB_1.out hp)
  have HR_1 : Hid (Blk v1 w.heap.size 70 #[.int .i64 0, .int .i64 0, .int .i64 0, .int .i64 0, .int .i64 0]) := by rw [hv1]; exact (Blk.new_at _ _ _ _ (by simp [size_set]))
  clear hv1 HW_0 HL_0 HB_1 
  refine (l1Below_any p 12 v1 HL_1.out (by omega) (by omega)).mono ?_
  rintro e v2 ⟨x, rfl, ⟨x0, x1⟩, L_2, W_2⟩
  have hz_2 : w.heap.size ≤ v2.heap.size := Nat.le_trans hz_1 W_2.size
  have hy_2 := W_2.size
  have HW_2 := Lib.hid (wrote_trans HW_1.out W_2)
  have HL_2 := Lib.hid L_2
  have HR_2 := Lib.hid (HR_1.out.wroteA W_2 (fun a ha => by obtain rfl := Option.some.inj ha; show p ≠ w.heap.size; omega))
  clear HW_1 HL_1 L_2 W_2 HR_1
  go_wp2_with fail
  refine (l1Below_any p 40 v2 HL_2.out (by omega) (by omega)).mono ?_
  rintro e v3 ⟨y, rfl, ⟨y0, y1⟩, L_3, W_3⟩
  have hz_3 : w.heap.size ≤ v3.heap.size := Nat.le_trans hz_2 W_3.size
  have hy_3 := W_3.size
  have HW_3 := Lib.hid (wrote_trans HW_2.out W_3)
  have HL_3 := Lib.hid L_3
  have HR_3 := Lib.hid (HR_2.out.wroteA W_3 (fun a ha => by obtain rfl := Option.some.inj ha; show p ≠ w.heap.size; omega))
  clear HW_2 HL_2 L_3 W_3 HR_2
  go_wp2_with fail
  refine (l1Below_any p 10 v3 HL_3.out (by omega) (by omega)).mono ?_
  rintro e v4 ⟨z, rfl, ⟨z0, z1⟩, L_4, W_4⟩
  have hz_4 : w.heap.size ≤ v4.heap.size := Nat.le_trans hz_3 W_4.size
  have hy_4 := W_4.size
  have HW_4 := Lib.hid (wrote_trans HW_3.out W_4)
  have HL_4 := Lib.hid L_4
  have HR_4 := Lib.hid (HR_3.out.wroteA W_4 (fun a ha => by obtain rfl := Option.some.inj ha; show p ≠ w.heap.size; omega))
  clear HW_3 HL_3 L_4 W_4 HR_3
  go_wp2_with fail
  refine (l1Below_any p 9 v4 HL_4.out (by omega) (by omega)).mono ?_
  rintro e v5 ⟨u, rfl, ⟨u0, u1⟩, L_5, W_5⟩
  have hz_5 : w.heap.size ≤ v5.heap.size := Nat.le_trans hz_4 W_5.size
  have hy_5 := W_5.size
  have HW_5 := Lib.hid (wrote_trans HW_4.out W_5)
  have HL_5 := Lib.hid L_5
  have HR_5 := Lib.hid (HR_4.out.wroteA W_5 (fun a ha => by obtain rfl := Option.some.inj ha; show p ≠ w.heap.size; omega))
  clear HW_4 HL_4 L_5 W_5 HR_4
  go_wp2_with fail
  refine calls_named ?_
  rintro v6 hv6
  have hz_6 : w.heap.size ≤ v6.heap.size := by rw [hv6]; (try simp only [size_set, World.size_alloc]); omega
  have hy_6 : v5.heap.size + 1 ≤ v6.heap.size := by rw [hv6]; (try simp only [size_set, World.size_alloc]); omega
  have HB_6 : Hid (Below w.heap.size v5 v6) := by rw [hv6]; exact (Below.refl w.heap.size v5).alloc (by (try simp only [size_set, World.size_alloc]); omega) _
  have HW_6 : Hid (Wrote w v6 (some ⟨p, 0, none⟩)) := Lib.hid (wrote_grow HW_5.out HB_6.out (Nat.le_refl _))
  have HL_6 : Hid (LC v6 p 74) := Lib.hid (HL_5.out.below HB_6.out hp)
  have HR_6 : Hid (Blk v6 w.heap.size 70 #[.int .i64 0, .int .i64 0, .int .i64 0, .int .i64 0, .int .i64 0]) := by rw [hv6]; exact (HR_5.out).alloc _
  have HN_6 : Hid (Blk v6 v5.heap.size 70 #[.int .i64 (1 + x), .int .i64 y, .int .i64 z, .int .i64 u, .int .i64 0]) := by rw [hv6]; exact (Blk.new_at _ _ _ _ (by simp [size_set]))
  clear hv6 HW_5 HL_5 HB_6 HR_5
  refine (l1Once_any p 12 v6 HL_6.out (by omega) (by omega)).mono ?_
  rintro e v7 ⟨b, rfl, L_7, W_7⟩
  have hz_7 : w.heap.size ≤ v7.heap.size := Nat.le_trans hz_6 W_7.size
  have hy_7 := W_7.size
  have HW_7 := Lib.hid (wrote_trans HW_6.out W_7)
  have HL_7 := Lib.hid L_7
  have HR_7 := Lib.hid (HR_6.out.wroteA W_7 (fun a ha => by obtain rfl := Option.some.inj ha; show p ≠ w.heap.size; omega))
  have HN_7 := Lib.hid (HN_6.out.wroteA W_7 (fun a ha => by obtain rfl := Option.some.inj ha; show p ≠ v5.heap.size; omega))
  clear HW_6 HL_6 L_7 W_7 HR_6 HN_6
  cases b with
  | false =>
    have lt_N := HN_7.out.lt
    have r_N0 : v7.cell? ⟨v5.heap.size, 0, none⟩ = some (.int .i64 (1 + x)) := HN_7.out.cell 0
    have z_N0 := HN_7.out.frozen 0
    have r_N1 : v7.cell? ⟨v5.heap.size, 1, none⟩ = some (.int .i64 y) := HN_7.out.cell 1
    have z_N1 := HN_7.out.frozen 1
    have r_N2 : v7.cell? ⟨v5.heap.size, 2, none⟩ = some (.int .i64 z) := HN_7.out.cell 2
    have z_N2 := HN_7.out.frozen 2
    have r_N3 : v7.cell? ⟨v5.heap.size, 3, none⟩ = some (.int .i64 u) := HN_7.out.cell 3
    have z_N3 := HN_7.out.frozen 3
    have r_N4 : v7.cell? ⟨v5.heap.size, 4, none⟩ = some (.int .i64 0) := HN_7.out.cell 4
    have z_N4 := HN_7.out.frozen 4
    have lt_R := HR_7.out.lt
    have r_R0 : v7.cell? ⟨w.heap.size, 0, none⟩ = some (.int .i64 0) := HR_7.out.cell 0
    have z_R0 := HR_7.out.frozen 0
    have r_R1 : v7.cell? ⟨w.heap.size, 1, none⟩ = some (.int .i64 0) := HR_7.out.cell 1
    have z_R1 := HR_7.out.frozen 1
    have r_R2 : v7.cell? ⟨w.heap.size, 2, none⟩ = some (.int .i64 0) := HR_7.out.cell 2
    have z_R2 := HR_7.out.frozen 2
    have r_R3 : v7.cell? ⟨w.heap.size, 3, none⟩ = some (.int .i64 0) := HR_7.out.cell 3
    have z_R3 := HR_7.out.frozen 3
    have r_R4 : v7.cell? ⟨w.heap.size, 4, none⟩ = some (.int .i64 0) := HR_7.out.cell 4
    have z_R4 := HR_7.out.frozen 4
    go_wp2
    refine bodyPost_ret (v := .agg #[.int .i64 (1 + x), .int .i64 y, .int .i64 z, .int .i64 u, .int .i64 0]) (by simp [results, Try.results85, go_sem, *]) rfl ⟨_, _, _, _, _, rfl, by (repeat (first | (with_reducible exact HL_7.out) | (with_reducible refine LC.far ?_ ?_ _; rotate_left; ((try dsimp only); omega)) | (with_reducible refine LC.alloc ?_ _))), by (repeat (first | (with_reducible exact HW_7.out) | (with_reducible refine wrote_far ?_ ?_ _; rotate_left; ((try dsimp only); omega)) | (with_reducible refine wrote_alloc ?_ _)))⟩
  | true =>
    go_wp2_with fail
    refine calls_named ?_
    rintro v8 hv8
    have hz_8 : w.heap.size ≤ v8.heap.size := by rw [hv8]; (try simp only [size_set, World.size_alloc]); omega
    have hy_8 : v7.heap.size + 1 ≤ v8.heap.size := by rw [hv8]; (try simp only [size_set, World.size_alloc]); omega
    have HB_8 : Hid (Below w.heap.size v7 v8) := by rw [hv8]; exact (Below.refl w.heap.size v7).alloc (by (try simp only [size_set, World.size_alloc]); omega) _
    have HW_8 : Hid (Wrote w v8 (some ⟨p, 0, none⟩)) := Lib.hid (wrote_grow HW_7.out HB_8.out (Nat.le_refl _))
    have HL_8 : Hid (LC v8 p 74) := Lib.hid (HL_7.out.below HB_8.out hp)
    have HR_8 : Hid (Blk v8 w.heap.size 70 #[.int .i64 0, .int .i64 0, .int .i64 0, .int .i64 0, .int .i64 0]) := by rw [hv8]; exact (HR_7.out).alloc _
    have HN_8 : Hid (Blk v8 v5.heap.size 70 #[.int .i64 (1 + x), .int .i64 y, .int .i64 z, .int .i64 u, .int .i64 0]) := by rw [hv8]; exact (HN_7.out).alloc _
    have HQ_8 : Hid (Blk v8 v7.heap.size 2 #[.int .i64 0, .int .i64 1000000]) := by rw [hv8]; exact (Blk.new_at _ _ _ _ (by simp [size_set]))
    clear hv8 HW_7 HL_7 HB_8 HR_7 HN_7
    refine (l1Below_any p 2 v8 HL_8.out (by omega) (by omega)).mono ?_
    rintro e v9 ⟨s, rfl, ⟨s0, s1⟩, L_9, W_9⟩
    have hz_9 : w.heap.size ≤ v9.heap.size := Nat.le_trans hz_8 W_9.size
    have hy_9 := W_9.size
    have HW_9 := Lib.hid (wrote_trans HW_8.out W_9)
    have HL_9 := Lib.hid L_9
    have HR_9 := Lib.hid (HR_8.out.wroteA W_9 (fun a ha => by obtain rfl := Option.some.inj ha; show p ≠ w.heap.size; omega))
    have HN_9 := Lib.hid (HN_8.out.wroteA W_9 (fun a ha => by obtain rfl := Option.some.inj ha; show p ≠ v5.heap.size; omega))
    have HQ_9 := Lib.hid (HQ_8.out.wroteA W_9 (fun a ha => by obtain rfl := Option.some.inj ha; show p ≠ v7.heap.size; omega))
    clear HW_8 HL_8 L_9 W_9 HR_8 HN_8 HQ_8
    obtain ⟨ks, rfl⟩ : ∃ k : Nat, s = k := ⟨s.toNat, by omega⟩
    obtain ⟨v, hv⟩ := lit_cell [0, 1000000] HQ_9.out ks (by simp; omega)
    have lt_Q := HQ_9.out.lt
    clear HQ_9
    have lt_N := HN_9.out.lt
    have r_N0 : v9.cell? ⟨v5.heap.size, 0, none⟩ = some (.int .i64 (1 + x)) := HN_9.out.cell 0
    have z_N0 := HN_9.out.frozen 0
    have r_N1 : v9.cell? ⟨v5.heap.size, 1, none⟩ = some (.int .i64 y) := HN_9.out.cell 1
    have z_N1 := HN_9.out.frozen 1
    have r_N2 : v9.cell? ⟨v5.heap.size, 2, none⟩ = some (.int .i64 z) := HN_9.out.cell 2
    have z_N2 := HN_9.out.frozen 2
    have r_N3 : v9.cell? ⟨v5.heap.size, 3, none⟩ = some (.int .i64 u) := HN_9.out.cell 3
    have z_N3 := HN_9.out.frozen 3
    have r_N4 : v9.cell? ⟨v5.heap.size, 4, none⟩ = some (.int .i64 0) := HN_9.out.cell 4
    have z_N4 := HN_9.out.frozen 4
    have lt_R := HR_9.out.lt
    have r_R0 : v9.cell? ⟨w.heap.size, 0, none⟩ = some (.int .i64 0) := HR_9.out.cell 0
    have z_R0 := HR_9.out.frozen 0
    have r_R1 : v9.cell? ⟨w.heap.size, 1, none⟩ = some (.int .i64 0) := HR_9.out.cell 1
    have z_R1 := HR_9.out.frozen 1
    have r_R2 : v9.cell? ⟨w.heap.size, 2, none⟩ = some (.int .i64 0) := HR_9.out.cell 2
    have z_R2 := HR_9.out.frozen 2
    have r_R3 : v9.cell? ⟨w.heap.size, 3, none⟩ = some (.int .i64 0) := HR_9.out.cell 3
    have z_R3 := HR_9.out.frozen 3
    have r_R4 : v9.cell? ⟨w.heap.size, 4, none⟩ = some (.int .i64 0) := HR_9.out.cell 4
    have z_R4 := HR_9.out.frozen 4
    go_wp2
    refine bodyPost_ret (v := .agg #[.int .i64 (1 + x), .int .i64 v, .int .i64 z, .int .i64 u, .int .i64 0]) (by simp [results, Try.results85, go_sem, *]) rfl ⟨_, _, _, _, _, rfl, by (repeat (first | (with_reducible exact HL_9.out) | (with_reducible refine LC.far ?_ ?_ _; rotate_left; ((try dsimp only); omega)) | (with_reducible refine LC.alloc ?_ _))), by (repeat (first | (with_reducible exact HW_9.out) | (with_reducible refine wrote_far ?_ ?_ _; rotate_left; ((try dsimp only); omega)) | (with_reducible refine wrote_alloc ?_ _)))⟩
set_option maxRecDepth 100000 in
set_option maxHeartbeats 4000000 in
theorem l15BentJob_any (p : Nat) (a b c d f : Int) (w : World) (hL : LC w p 74) : Calls Try.prog 71 #[.pointer (some ⟨p, 0, none⟩), .agg #[.int .i64 a, .int .i64 b, .int .i64 c, .int .i64 d, .int .i64 f]] w (fun e w' => ∃ a b c d f, e = .returned (.agg #[.int .i64 a, .int .i64 b, .int .i64 c, .int .i64 d, .int .i64 f]) ∧ LC w' p 74 ∧ Wrote w w' (some ⟨p, 0, none⟩)) := by
  have HL_0 := Lib.hid hL
  have hp := hL.lt
  clear hL
  have HW_0 : Hid (Wrote w w (some ⟨p, 0, none⟩)) := Lib.hid (wrote_refl _ _)
  have hz_0 : w.heap.size ≤ w.heap.size := Nat.le_refl _
  go_enter Try.func71, Try.ntmps71
  go_wp2_with fail
  refine calls_named ?_
  rintro v1 hv1
  have hz_1 : w.heap.size ≤ v1.heap.size := by rw [hv1]; (try simp only [size_set, World.size_alloc]); omega
  have hy_1 : w.heap.size + 2 ≤ v1.heap.size := by rw [hv1]; (try simp only [size_set, World.size_alloc]); omega
  have HB_1 : Hid (Below w.heap.size w v1) := by rw [hv1]; exact ((Below.refl w.heap.size w).alloc (by (try simp only [size_set, World.size_alloc]); omega) _).alloc (by (try simp only [size_set, World.size_alloc]); omega) _
  have HW_1 : Hid (Wrote w v1 (some ⟨p, 0, none⟩)) := Lib.hid (wrote_grow HW_0.out HB_1.out (Nat.le_refl _))
  have HL_1 : Hid (LC v1 p 74) := Lib.hid (HL_0.out.below HB_1.out hp)
  have HN_1 : Hid (Blk v1 w.heap.size 70 #[.int .i64 a, .int .i64 b, .int .i64 c, .int .i64 d, .int .i64 f]) := by rw [hv1]; exact ((Blk.new_at _ _ _ _ (by simp [size_set]))).alloc _
  have HR_1 : Hid (Blk v1 (w.heap.size + 1) 70 #[.int .i64 0, .int .i64 0, .int .i64 0, .int .i64 0, .int .i64 0]) := by rw [hv1]; exact (Blk.new_at _ _ _ _ (by simp [size_set]))
  clear hv1 HW_0 HL_0 HB_1 
  refine (l1Below_any p 5 v1 HL_1.out (by omega) (by omega)).mono ?_
  rintro e v2 ⟨x, rfl, ⟨x0, x1⟩, L_2, W_2⟩
  have hz_2 : w.heap.size ≤ v2.heap.size := Nat.le_trans hz_1 W_2.size
  have hy_2 := W_2.size
  have HW_2 := Lib.hid (wrote_trans HW_1.out W_2)
  have HL_2 := Lib.hid L_2
  have HN_2 := Lib.hid (HN_1.out.wroteA W_2 (fun a ha => by obtain rfl := Option.some.inj ha; show p ≠ w.heap.size; omega))
  have HR_2 := Lib.hid (HR_1.out.wroteA W_2 (fun a ha => by obtain rfl := Option.some.inj ha; show p ≠ (w.heap.size + 1); omega))
  clear HW_1 HL_1 L_2 W_2 HN_1 HR_1
  rcases (by omega : x = 0 ∨ x = 1 ∨ x = 2 ∨ x = 3 ∨ x = 4) with rfl | rfl | rfl | rfl | rfl
  · skip
    go_wp2_with fail
    refine calls_named ?_
    rintro v3 hv3
    have hz_3 : w.heap.size ≤ v3.heap.size := by rw [hv3]; (try simp only [size_set, World.size_alloc]); omega
    have hy_3 : v2.heap.size + 1 ≤ v3.heap.size := by rw [hv3]; (try simp only [size_set, World.size_alloc]); omega
    have HB_3 : Hid (Below w.heap.size v2 v3) := by rw [hv3]; exact (Below.refl w.heap.size v2).alloc (by (try simp only [size_set, World.size_alloc]); omega) _
    have HW_3 : Hid (Wrote w v3 (some ⟨p, 0, none⟩)) := Lib.hid (wrote_grow HW_2.out HB_3.out (Nat.le_refl _))
    have HL_3 : Hid (LC v3 p 74) := Lib.hid (HL_2.out.below HB_3.out hp)
    have HN_3 : Hid (Blk v3 w.heap.size 70 #[.int .i64 a, .int .i64 b, .int .i64 c, .int .i64 d, .int .i64 f]) := by rw [hv3]; exact (HN_2.out).alloc _
    have HR_3 : Hid (Blk v3 (w.heap.size + 1) 70 #[.int .i64 0, .int .i64 0, .int .i64 0, .int .i64 0, .int .i64 0]) := by rw [hv3]; exact (HR_2.out).alloc _
    have HQ_3 : Hid (Blk v3 v2.heap.size 2 #[.int .i64 0, .int .i64 1, .int .i64 20, .int .i64 21]) := by rw [hv3]; exact (Blk.new_at _ _ _ _ (by simp [size_set]))
    clear hv3 HW_2 HL_2 HB_3 HN_2 HR_2
    refine (l1Below_any p 4 v3 HL_3.out (by omega) (by omega)).mono ?_
    rintro e v4 ⟨t, rfl, ⟨t0, t1⟩, L_4, W_4⟩
    have hz_4 : w.heap.size ≤ v4.heap.size := Nat.le_trans hz_3 W_4.size
    have hy_4 := W_4.size
    have HW_4 := Lib.hid (wrote_trans HW_3.out W_4)
    have HL_4 := Lib.hid L_4
    have HN_4 := Lib.hid (HN_3.out.wroteA W_4 (fun a ha => by obtain rfl := Option.some.inj ha; show p ≠ w.heap.size; omega))
    have HR_4 := Lib.hid (HR_3.out.wroteA W_4 (fun a ha => by obtain rfl := Option.some.inj ha; show p ≠ (w.heap.size + 1); omega))
    have HQ_4 := Lib.hid (HQ_3.out.wroteA W_4 (fun a ha => by obtain rfl := Option.some.inj ha; show p ≠ v2.heap.size; omega))
    clear HW_3 HL_3 L_4 W_4 HN_3 HR_3 HQ_3
    obtain ⟨kt, rfl⟩ : ∃ k : Nat, t = k := ⟨t.toNat, by omega⟩
    obtain ⟨u, hu⟩ := lit_cell [0, 1, 20, 21] HQ_4.out kt (by simp; omega)
    have lt_Q := HQ_4.out.lt
    clear HQ_4
    have lt_N := HN_4.out.lt
    have r_N0 : v4.cell? ⟨w.heap.size, 0, none⟩ = some (.int .i64 a) := HN_4.out.cell 0
    have z_N0 := HN_4.out.frozen 0
    have r_N1 : v4.cell? ⟨w.heap.size, 1, none⟩ = some (.int .i64 b) := HN_4.out.cell 1
    have z_N1 := HN_4.out.frozen 1
    have r_N2 : v4.cell? ⟨w.heap.size, 2, none⟩ = some (.int .i64 c) := HN_4.out.cell 2
    have z_N2 := HN_4.out.frozen 2
    have r_N3 : v4.cell? ⟨w.heap.size, 3, none⟩ = some (.int .i64 d) := HN_4.out.cell 3
    have z_N3 := HN_4.out.frozen 3
    have r_N4 : v4.cell? ⟨w.heap.size, 4, none⟩ = some (.int .i64 f) := HN_4.out.cell 4
    have z_N4 := HN_4.out.frozen 4
    have lt_R := HR_4.out.lt
    have r_R0 : v4.cell? ⟨(w.heap.size + 1), 0, none⟩ = some (.int .i64 0) := HR_4.out.cell 0
    have z_R0 := HR_4.out.frozen 0
    have r_R1 : v4.cell? ⟨(w.heap.size + 1), 1, none⟩ = some (.int .i64 0) := HR_4.out.cell 1
    have z_R1 := HR_4.out.frozen 1
    have r_R2 : v4.cell? ⟨(w.heap.size + 1), 2, none⟩ = some (.int .i64 0) := HR_4.out.cell 2
    have z_R2 := HR_4.out.frozen 2
    have r_R3 : v4.cell? ⟨(w.heap.size + 1), 3, none⟩ = some (.int .i64 0) := HR_4.out.cell 3
    have z_R3 := HR_4.out.frozen 3
    have r_R4 : v4.cell? ⟨(w.heap.size + 1), 4, none⟩ = some (.int .i64 0) := HR_4.out.cell 4
    have z_R4 := HR_4.out.frozen 4
    go_wp2
    refine bodyPost_ret (v := .agg #[.int .i64 u, .int .i64 b, .int .i64 c, .int .i64 d, .int .i64 f]) (by simp [results, Try.results71, go_sem, *]) rfl ⟨_, _, _, _, _, rfl, by (repeat (first | (with_reducible exact HL_4.out) | (with_reducible refine LC.far ?_ ?_ _; rotate_left; ((try dsimp only); omega)) | (with_reducible refine LC.alloc ?_ _))), by (repeat (first | (with_reducible exact HW_4.out) | (with_reducible refine wrote_far ?_ ?_ _; rotate_left; ((try dsimp only); omega)) | (with_reducible refine wrote_alloc ?_ _)))⟩
  · skip
    go_wp2_with fail
    refine calls_named ?_
    rintro v3 hv3
    have hz_3 : w.heap.size ≤ v3.heap.size := by rw [hv3]; (try simp only [size_set, World.size_alloc]); omega
    have hy_3 : v2.heap.size + 1 ≤ v3.heap.size := by rw [hv3]; (try simp only [size_set, World.size_alloc]); omega
    have HB_3 : Hid (Below w.heap.size v2 v3) := by rw [hv3]; exact (Below.refl w.heap.size v2).alloc (by (try simp only [size_set, World.size_alloc]); omega) _
    have HW_3 : Hid (Wrote w v3 (some ⟨p, 0, none⟩)) := Lib.hid (wrote_grow HW_2.out HB_3.out (Nat.le_refl _))
    have HL_3 : Hid (LC v3 p 74) := Lib.hid (HL_2.out.below HB_3.out hp)
    have HN_3 : Hid (Blk v3 w.heap.size 70 #[.int .i64 a, .int .i64 b, .int .i64 c, .int .i64 d, .int .i64 f]) := by rw [hv3]; exact (HN_2.out).alloc _
    have HR_3 : Hid (Blk v3 (w.heap.size + 1) 70 #[.int .i64 0, .int .i64 0, .int .i64 0, .int .i64 0, .int .i64 0]) := by rw [hv3]; exact (HR_2.out).alloc _
    have HQ_3 : Hid (Blk v3 v2.heap.size 2 #[.int .i64 (-1), .int .i64 1000000, .int .i64 1000001]) := by rw [hv3]; exact (Blk.new_at _ _ _ _ (by simp [size_set]))
    clear hv3 HW_2 HL_2 HB_3 HN_2 HR_2
    refine (l1Below_any p 3 v3 HL_3.out (by omega) (by omega)).mono ?_
    rintro e v4 ⟨t, rfl, ⟨t0, t1⟩, L_4, W_4⟩
    have hz_4 : w.heap.size ≤ v4.heap.size := Nat.le_trans hz_3 W_4.size
    have hy_4 := W_4.size
    have HW_4 := Lib.hid (wrote_trans HW_3.out W_4)
    have HL_4 := Lib.hid L_4
    have HN_4 := Lib.hid (HN_3.out.wroteA W_4 (fun a ha => by obtain rfl := Option.some.inj ha; show p ≠ w.heap.size; omega))
    have HR_4 := Lib.hid (HR_3.out.wroteA W_4 (fun a ha => by obtain rfl := Option.some.inj ha; show p ≠ (w.heap.size + 1); omega))
    have HQ_4 := Lib.hid (HQ_3.out.wroteA W_4 (fun a ha => by obtain rfl := Option.some.inj ha; show p ≠ v2.heap.size; omega))
    clear HW_3 HL_3 L_4 W_4 HN_3 HR_3 HQ_3
    obtain ⟨kt, rfl⟩ : ∃ k : Nat, t = k := ⟨t.toNat, by omega⟩
    obtain ⟨u, hu⟩ := lit_cell [-1, 1000000, 1000001] HQ_4.out kt (by simp; omega)
    have lt_Q := HQ_4.out.lt
    clear HQ_4
    have lt_N := HN_4.out.lt
    have r_N0 : v4.cell? ⟨w.heap.size, 0, none⟩ = some (.int .i64 a) := HN_4.out.cell 0
    have z_N0 := HN_4.out.frozen 0
    have r_N1 : v4.cell? ⟨w.heap.size, 1, none⟩ = some (.int .i64 b) := HN_4.out.cell 1
    have z_N1 := HN_4.out.frozen 1
    have r_N2 : v4.cell? ⟨w.heap.size, 2, none⟩ = some (.int .i64 c) := HN_4.out.cell 2
    have z_N2 := HN_4.out.frozen 2
    have r_N3 : v4.cell? ⟨w.heap.size, 3, none⟩ = some (.int .i64 d) := HN_4.out.cell 3
    have z_N3 := HN_4.out.frozen 3
    have r_N4 : v4.cell? ⟨w.heap.size, 4, none⟩ = some (.int .i64 f) := HN_4.out.cell 4
    have z_N4 := HN_4.out.frozen 4
    have lt_R := HR_4.out.lt
    have r_R0 : v4.cell? ⟨(w.heap.size + 1), 0, none⟩ = some (.int .i64 0) := HR_4.out.cell 0
    have z_R0 := HR_4.out.frozen 0
    have r_R1 : v4.cell? ⟨(w.heap.size + 1), 1, none⟩ = some (.int .i64 0) := HR_4.out.cell 1
    have z_R1 := HR_4.out.frozen 1
    have r_R2 : v4.cell? ⟨(w.heap.size + 1), 2, none⟩ = some (.int .i64 0) := HR_4.out.cell 2
    have z_R2 := HR_4.out.frozen 2
    have r_R3 : v4.cell? ⟨(w.heap.size + 1), 3, none⟩ = some (.int .i64 0) := HR_4.out.cell 3
    have z_R3 := HR_4.out.frozen 3
    have r_R4 : v4.cell? ⟨(w.heap.size + 1), 4, none⟩ = some (.int .i64 0) := HR_4.out.cell 4
    have z_R4 := HR_4.out.frozen 4
    go_wp2
    refine bodyPost_ret (v := .agg #[.int .i64 a, .int .i64 u, .int .i64 c, .int .i64 d, .int .i64 f]) (by simp [results, Try.results71, go_sem, *]) rfl ⟨_, _, _, _, _, rfl, by (repeat (first | (with_reducible exact HL_4.out) | (with_reducible refine LC.far ?_ ?_ _; rotate_left; ((try dsimp only); omega)) | (with_reducible refine LC.alloc ?_ _))), by (repeat (first | (with_reducible exact HW_4.out) | (with_reducible refine wrote_far ?_ ?_ _; rotate_left; ((try dsimp only); omega)) | (with_reducible refine wrote_alloc ?_ _)))⟩
  · skip
    go_wp2_with fail
    refine calls_named ?_
    rintro v3 hv3
    have hz_3 : w.heap.size ≤ v3.heap.size := by rw [hv3]; (try simp only [size_set, World.size_alloc]); omega
    have hy_3 : v2.heap.size + 1 ≤ v3.heap.size := by rw [hv3]; (try simp only [size_set, World.size_alloc]); omega
    have HB_3 : Hid (Below w.heap.size v2 v3) := by rw [hv3]; exact (Below.refl w.heap.size v2).alloc (by (try simp only [size_set, World.size_alloc]); omega) _
    have HW_3 : Hid (Wrote w v3 (some ⟨p, 0, none⟩)) := Lib.hid (wrote_grow HW_2.out HB_3.out (Nat.le_refl _))
    have HL_3 : Hid (LC v3 p 74) := Lib.hid (HL_2.out.below HB_3.out hp)
    have HN_3 : Hid (Blk v3 w.heap.size 70 #[.int .i64 a, .int .i64 b, .int .i64 c, .int .i64 d, .int .i64 f]) := by rw [hv3]; exact (HN_2.out).alloc _
    have HR_3 : Hid (Blk v3 (w.heap.size + 1) 70 #[.int .i64 0, .int .i64 0, .int .i64 0, .int .i64 0, .int .i64 0]) := by rw [hv3]; exact (HR_2.out).alloc _
    have HQ_3 : Hid (Blk v3 v2.heap.size 2 #[.int .i64 (-1), .int .i64 10]) := by rw [hv3]; exact (Blk.new_at _ _ _ _ (by simp [size_set]))
    clear hv3 HW_2 HL_2 HB_3 HN_2 HR_2
    refine (l1Below_any p 2 v3 HL_3.out (by omega) (by omega)).mono ?_
    rintro e v4 ⟨t, rfl, ⟨t0, t1⟩, L_4, W_4⟩
    have hz_4 : w.heap.size ≤ v4.heap.size := Nat.le_trans hz_3 W_4.size
    have hy_4 := W_4.size
    have HW_4 := Lib.hid (wrote_trans HW_3.out W_4)
    have HL_4 := Lib.hid L_4
    have HN_4 := Lib.hid (HN_3.out.wroteA W_4 (fun a ha => by obtain rfl := Option.some.inj ha; show p ≠ w.heap.size; omega))
    have HR_4 := Lib.hid (HR_3.out.wroteA W_4 (fun a ha => by obtain rfl := Option.some.inj ha; show p ≠ (w.heap.size + 1); omega))
    have HQ_4 := Lib.hid (HQ_3.out.wroteA W_4 (fun a ha => by obtain rfl := Option.some.inj ha; show p ≠ v2.heap.size; omega))
    clear HW_3 HL_3 L_4 W_4 HN_3 HR_3 HQ_3
    obtain ⟨kt, rfl⟩ : ∃ k : Nat, t = k := ⟨t.toNat, by omega⟩
    obtain ⟨u, hu⟩ := lit_cell [-1, 10] HQ_4.out kt (by simp; omega)
    have lt_Q := HQ_4.out.lt
    clear HQ_4
    have lt_N := HN_4.out.lt
    have r_N0 : v4.cell? ⟨w.heap.size, 0, none⟩ = some (.int .i64 a) := HN_4.out.cell 0
    have z_N0 := HN_4.out.frozen 0
    have r_N1 : v4.cell? ⟨w.heap.size, 1, none⟩ = some (.int .i64 b) := HN_4.out.cell 1
    have z_N1 := HN_4.out.frozen 1
    have r_N2 : v4.cell? ⟨w.heap.size, 2, none⟩ = some (.int .i64 c) := HN_4.out.cell 2
    have z_N2 := HN_4.out.frozen 2
    have r_N3 : v4.cell? ⟨w.heap.size, 3, none⟩ = some (.int .i64 d) := HN_4.out.cell 3
    have z_N3 := HN_4.out.frozen 3
    have r_N4 : v4.cell? ⟨w.heap.size, 4, none⟩ = some (.int .i64 f) := HN_4.out.cell 4
    have z_N4 := HN_4.out.frozen 4
    have lt_R := HR_4.out.lt
    have r_R0 : v4.cell? ⟨(w.heap.size + 1), 0, none⟩ = some (.int .i64 0) := HR_4.out.cell 0
    have z_R0 := HR_4.out.frozen 0
    have r_R1 : v4.cell? ⟨(w.heap.size + 1), 1, none⟩ = some (.int .i64 0) := HR_4.out.cell 1
    have z_R1 := HR_4.out.frozen 1
    have r_R2 : v4.cell? ⟨(w.heap.size + 1), 2, none⟩ = some (.int .i64 0) := HR_4.out.cell 2
    have z_R2 := HR_4.out.frozen 2
    have r_R3 : v4.cell? ⟨(w.heap.size + 1), 3, none⟩ = some (.int .i64 0) := HR_4.out.cell 3
    have z_R3 := HR_4.out.frozen 3
    have r_R4 : v4.cell? ⟨(w.heap.size + 1), 4, none⟩ = some (.int .i64 0) := HR_4.out.cell 4
    have z_R4 := HR_4.out.frozen 4
    go_wp2
    refine bodyPost_ret (v := .agg #[.int .i64 a, .int .i64 b, .int .i64 u, .int .i64 d, .int .i64 f]) (by simp [results, Try.results71, go_sem, *]) rfl ⟨_, _, _, _, _, rfl, by (repeat (first | (with_reducible exact HL_4.out) | (with_reducible refine LC.far ?_ ?_ _; rotate_left; ((try dsimp only); omega)) | (with_reducible refine LC.alloc ?_ _))), by (repeat (first | (with_reducible exact HW_4.out) | (with_reducible refine wrote_far ?_ ?_ _; rotate_left; ((try dsimp only); omega)) | (with_reducible refine wrote_alloc ?_ _)))⟩
  · skip
    go_wp2_with fail
    refine calls_named ?_
    rintro v3 hv3
    have hz_3 : w.heap.size ≤ v3.heap.size := by rw [hv3]; (try simp only [size_set, World.size_alloc]); omega
    have hy_3 : v2.heap.size + 1 ≤ v3.heap.size := by rw [hv3]; (try simp only [size_set, World.size_alloc]); omega
    have HB_3 : Hid (Below w.heap.size v2 v3) := by rw [hv3]; exact (Below.refl w.heap.size v2).alloc (by (try simp only [size_set, World.size_alloc]); omega) _
    have HW_3 : Hid (Wrote w v3 (some ⟨p, 0, none⟩)) := Lib.hid (wrote_grow HW_2.out HB_3.out (Nat.le_refl _))
    have HL_3 : Hid (LC v3 p 74) := Lib.hid (HL_2.out.below HB_3.out hp)
    have HN_3 : Hid (Blk v3 w.heap.size 70 #[.int .i64 a, .int .i64 b, .int .i64 c, .int .i64 d, .int .i64 f]) := by rw [hv3]; exact (HN_2.out).alloc _
    have HR_3 : Hid (Blk v3 (w.heap.size + 1) 70 #[.int .i64 0, .int .i64 0, .int .i64 0, .int .i64 0, .int .i64 0]) := by rw [hv3]; exact (HR_2.out).alloc _
    have HQ_3 : Hid (Blk v3 v2.heap.size 2 #[.int .i64 (-1), .int .i64 999, .int .i64 1000]) := by rw [hv3]; exact (Blk.new_at _ _ _ _ (by simp [size_set]))
    clear hv3 HW_2 HL_2 HB_3 HN_2 HR_2
    refine (l1Below_any p 3 v3 HL_3.out (by omega) (by omega)).mono ?_
    rintro e v4 ⟨t, rfl, ⟨t0, t1⟩, L_4, W_4⟩
    have hz_4 : w.heap.size ≤ v4.heap.size := Nat.le_trans hz_3 W_4.size
    have hy_4 := W_4.size
    have HW_4 := Lib.hid (wrote_trans HW_3.out W_4)
    have HL_4 := Lib.hid L_4
    have HN_4 := Lib.hid (HN_3.out.wroteA W_4 (fun a ha => by obtain rfl := Option.some.inj ha; show p ≠ w.heap.size; omega))
    have HR_4 := Lib.hid (HR_3.out.wroteA W_4 (fun a ha => by obtain rfl := Option.some.inj ha; show p ≠ (w.heap.size + 1); omega))
    have HQ_4 := Lib.hid (HQ_3.out.wroteA W_4 (fun a ha => by obtain rfl := Option.some.inj ha; show p ≠ v2.heap.size; omega))
    clear HW_3 HL_3 L_4 W_4 HN_3 HR_3 HQ_3
    obtain ⟨kt, rfl⟩ : ∃ k : Nat, t = k := ⟨t.toNat, by omega⟩
    obtain ⟨u, hu⟩ := lit_cell [-1, 999, 1000] HQ_4.out kt (by simp; omega)
    have lt_Q := HQ_4.out.lt
    clear HQ_4
    have lt_N := HN_4.out.lt
    have r_N0 : v4.cell? ⟨w.heap.size, 0, none⟩ = some (.int .i64 a) := HN_4.out.cell 0
    have z_N0 := HN_4.out.frozen 0
    have r_N1 : v4.cell? ⟨w.heap.size, 1, none⟩ = some (.int .i64 b) := HN_4.out.cell 1
    have z_N1 := HN_4.out.frozen 1
    have r_N2 : v4.cell? ⟨w.heap.size, 2, none⟩ = some (.int .i64 c) := HN_4.out.cell 2
    have z_N2 := HN_4.out.frozen 2
    have r_N3 : v4.cell? ⟨w.heap.size, 3, none⟩ = some (.int .i64 d) := HN_4.out.cell 3
    have z_N3 := HN_4.out.frozen 3
    have r_N4 : v4.cell? ⟨w.heap.size, 4, none⟩ = some (.int .i64 f) := HN_4.out.cell 4
    have z_N4 := HN_4.out.frozen 4
    have lt_R := HR_4.out.lt
    have r_R0 : v4.cell? ⟨(w.heap.size + 1), 0, none⟩ = some (.int .i64 0) := HR_4.out.cell 0
    have z_R0 := HR_4.out.frozen 0
    have r_R1 : v4.cell? ⟨(w.heap.size + 1), 1, none⟩ = some (.int .i64 0) := HR_4.out.cell 1
    have z_R1 := HR_4.out.frozen 1
    have r_R2 : v4.cell? ⟨(w.heap.size + 1), 2, none⟩ = some (.int .i64 0) := HR_4.out.cell 2
    have z_R2 := HR_4.out.frozen 2
    have r_R3 : v4.cell? ⟨(w.heap.size + 1), 3, none⟩ = some (.int .i64 0) := HR_4.out.cell 3
    have z_R3 := HR_4.out.frozen 3
    have r_R4 : v4.cell? ⟨(w.heap.size + 1), 4, none⟩ = some (.int .i64 0) := HR_4.out.cell 4
    have z_R4 := HR_4.out.frozen 4
    go_wp2
    refine bodyPost_ret (v := .agg #[.int .i64 a, .int .i64 b, .int .i64 c, .int .i64 u, .int .i64 f]) (by simp [results, Try.results71, go_sem, *]) rfl ⟨_, _, _, _, _, rfl, by (repeat (first | (with_reducible exact HL_4.out) | (with_reducible refine LC.far ?_ ?_ _; rotate_left; ((try dsimp only); omega)) | (with_reducible refine LC.alloc ?_ _))), by (repeat (first | (with_reducible exact HW_4.out) | (with_reducible refine wrote_far ?_ ?_ _; rotate_left; ((try dsimp only); omega)) | (with_reducible refine wrote_alloc ?_ _)))⟩
  · skip
    go_wp2_with fail
    refine calls_named ?_
    rintro v3 hv3
    have hz_3 : w.heap.size ≤ v3.heap.size := by rw [hv3]; (try simp only [size_set, World.size_alloc]); omega
    have hy_3 : v2.heap.size + 1 ≤ v3.heap.size := by rw [hv3]; (try simp only [size_set, World.size_alloc]); omega
    have HB_3 : Hid (Below w.heap.size v2 v3) := by rw [hv3]; exact (Below.refl w.heap.size v2).alloc (by (try simp only [size_set, World.size_alloc]); omega) _
    have HW_3 : Hid (Wrote w v3 (some ⟨p, 0, none⟩)) := Lib.hid (wrote_grow HW_2.out HB_3.out (Nat.le_refl _))
    have HL_3 : Hid (LC v3 p 74) := Lib.hid (HL_2.out.below HB_3.out hp)
    have HN_3 : Hid (Blk v3 w.heap.size 70 #[.int .i64 a, .int .i64 b, .int .i64 c, .int .i64 d, .int .i64 f]) := by rw [hv3]; exact (HN_2.out).alloc _
    have HR_3 : Hid (Blk v3 (w.heap.size + 1) 70 #[.int .i64 0, .int .i64 0, .int .i64 0, .int .i64 0, .int .i64 0]) := by rw [hv3]; exact (HR_2.out).alloc _
    have HQ_3 : Hid (Blk v3 v2.heap.size 2 #[.int .i64 (-1), .int .i64 1, .int .i64 2000, .int .i64 2001]) := by rw [hv3]; exact (Blk.new_at _ _ _ _ (by simp [size_set]))
    clear hv3 HW_2 HL_2 HB_3 HN_2 HR_2
    refine (l1Below_any p 4 v3 HL_3.out (by omega) (by omega)).mono ?_
    rintro e v4 ⟨t, rfl, ⟨t0, t1⟩, L_4, W_4⟩
    have hz_4 : w.heap.size ≤ v4.heap.size := Nat.le_trans hz_3 W_4.size
    have hy_4 := W_4.size
    have HW_4 := Lib.hid (wrote_trans HW_3.out W_4)
    have HL_4 := Lib.hid L_4
    have HN_4 := Lib.hid (HN_3.out.wroteA W_4 (fun a ha => by obtain rfl := Option.some.inj ha; show p ≠ w.heap.size; omega))
    have HR_4 := Lib.hid (HR_3.out.wroteA W_4 (fun a ha => by obtain rfl := Option.some.inj ha; show p ≠ (w.heap.size + 1); omega))
    have HQ_4 := Lib.hid (HQ_3.out.wroteA W_4 (fun a ha => by obtain rfl := Option.some.inj ha; show p ≠ v2.heap.size; omega))
    clear HW_3 HL_3 L_4 W_4 HN_3 HR_3 HQ_3
    obtain ⟨kt, rfl⟩ : ∃ k : Nat, t = k := ⟨t.toNat, by omega⟩
    obtain ⟨u, hu⟩ := lit_cell [-1, 1, 2000, 2001] HQ_4.out kt (by simp; omega)
    have lt_Q := HQ_4.out.lt
    clear HQ_4
    have lt_N := HN_4.out.lt
    have r_N0 : v4.cell? ⟨w.heap.size, 0, none⟩ = some (.int .i64 a) := HN_4.out.cell 0
    have z_N0 := HN_4.out.frozen 0
    have r_N1 : v4.cell? ⟨w.heap.size, 1, none⟩ = some (.int .i64 b) := HN_4.out.cell 1
    have z_N1 := HN_4.out.frozen 1
    have r_N2 : v4.cell? ⟨w.heap.size, 2, none⟩ = some (.int .i64 c) := HN_4.out.cell 2
    have z_N2 := HN_4.out.frozen 2
    have r_N3 : v4.cell? ⟨w.heap.size, 3, none⟩ = some (.int .i64 d) := HN_4.out.cell 3
    have z_N3 := HN_4.out.frozen 3
    have r_N4 : v4.cell? ⟨w.heap.size, 4, none⟩ = some (.int .i64 f) := HN_4.out.cell 4
    have z_N4 := HN_4.out.frozen 4
    have lt_R := HR_4.out.lt
    have r_R0 : v4.cell? ⟨(w.heap.size + 1), 0, none⟩ = some (.int .i64 0) := HR_4.out.cell 0
    have z_R0 := HR_4.out.frozen 0
    have r_R1 : v4.cell? ⟨(w.heap.size + 1), 1, none⟩ = some (.int .i64 0) := HR_4.out.cell 1
    have z_R1 := HR_4.out.frozen 1
    have r_R2 : v4.cell? ⟨(w.heap.size + 1), 2, none⟩ = some (.int .i64 0) := HR_4.out.cell 2
    have z_R2 := HR_4.out.frozen 2
    have r_R3 : v4.cell? ⟨(w.heap.size + 1), 3, none⟩ = some (.int .i64 0) := HR_4.out.cell 3
    have z_R3 := HR_4.out.frozen 3
    have r_R4 : v4.cell? ⟨(w.heap.size + 1), 4, none⟩ = some (.int .i64 0) := HR_4.out.cell 4
    have z_R4 := HR_4.out.frozen 4
    go_wp2
    refine bodyPost_ret (v := .agg #[.int .i64 a, .int .i64 b, .int .i64 c, .int .i64 d, .int .i64 u]) (by simp [results, Try.results71, go_sem, *]) rfl ⟨_, _, _, _, _, rfl, by (repeat (first | (with_reducible exact HL_4.out) | (with_reducible refine LC.far ?_ ?_ _; rotate_left; ((try dsimp only); omega)) | (with_reducible refine LC.alloc ?_ _))), by (repeat (first | (with_reducible exact HW_4.out) | (with_reducible refine wrote_far ?_ ?_ _; rotate_left; ((try dsimp only); omega)) | (with_reducible refine wrote_alloc ?_ _)))⟩
/-- n jobs set one behind the other. -/
def RetLJ (w : World) (p C E m : Nat) (e : Ending) (w' : World) : Prop := ∃ A n c zs, e = .returned (.slice A n c) ∧ n ≤ m ∧ Row w' w.heap.size E 5 A n c zs ∧ LC w' p C ∧ Wrote w w' (some ⟨p, 0, none⟩)
set_option maxRecDepth 100000 in
set_option maxHeartbeats 4000000 in
theorem l15Draw_any (p : Nat) (w : World) (hL : LC w p 74) : Calls Try.prog 70 #[.pointer (some ⟨p, 0, none⟩)] w (RetL w p 74 70 5 9) := by
  have HL := Lib.hid hL
  have hp := hL.lt
  clear hL
  have R0 : Row (w.alloc (.cells #[] 70)) w.heap.size 70 5 (some ⟨w.heap.size, 0, none⟩) 0 0 [] := row0p (Blk.new w _ _) (Nat.le_refl _)
  go_enter Try.func70, Try.ntmps70
  go_wp2_with fail
  refine (l1Below_any p 10 _ (HL.out.new (by (repeat' (first | (with_reducible exact Below.refl _ _) | (with_reducible assumption) | (with_reducible refine Below.alloc ?_ ?_ _) | (with_reducible refine Below.drew ?_) | (with_reducible refine Below.setCell ?_ ?_ _) | (with_reducible refine bstep (by assumption) ?_ ?_) | (with_reducible exact Nat.le_refl _) | omega | (simp [*]; done) | (simp [*]; omega))))) (by omega) (by omega)).mono ?_
  rintro e v1 ⟨x, rfl, ⟨hx0, hx1⟩, L1, W1⟩
  have R1 := rowp R0 W1 hp
  have V1 : Wrote w v1 (some ⟨p, 0, none⟩) := wrote_trans (wrote_below (by (repeat' (first | (with_reducible exact Below.refl _ _) | (with_reducible assumption) | (with_reducible refine Below.alloc ?_ ?_ _) | (with_reducible refine Below.drew ?_) | (with_reducible refine Below.setCell ?_ ?_ _) | (with_reducible refine bstep (by assumption) ?_ ?_) | (with_reducible exact Nat.le_refl _) | omega | (simp [*]; done) | (simp [*]; omega)))) _) W1
  clear R0 W1
  obtain ⟨x, rfl⟩ : ∃ k : Nat, x = k := ⟨x.toNat, by omega⟩
  go_wp2
  go_loopw [3, 4] (fun lv iv wr => ∃ (k : Nat) (A : Option Addr) (n c : Nat) (zs : List Int), k ≤ 10 ∧ n ≤ 9 ∧ iv = .int .i64 k ∧ lv = .slice A n c ∧ Row wr w.heap.size 70 5 A n c zs ∧ LC wr p 74 ∧ Wrote w wr (some ⟨p, 0, none⟩)) (fun _ iv _ => (intOf iv).toNat)
  case atStart => exact ⟨x, _, 0, 0, [], by omega, by omega, rfl, rfl, R1, L1, V1⟩
  case round =>
    obtain ⟨k, A, n, c, zs, hk10, hn, rfl, rfl, R, L, W⟩ := hrel
    have hz := W.size
    obtain ⟨l, hl, rfl⟩ := JB_of n zs R.len
    have hl9 : l.length ≤ 9 := by omega
    have hnm : n ≤ maxLen := by unfold maxLen; omega
    by_cases hk : 0 < k
    · have hk' : (0 : Int) < (k : Int) := by omega
      go_wp2_with fail
      refine (l15DrawJob_any p wr L).mono ?_
      rintro e w2 ⟨a, b, c2, d, f, rfl, L2, W2⟩
      have R2 := rowp R W2 hp
      have V2 := wrote_trans W W2
      clear R L W W2
      have e1 := addedRS_any A n c l a b c2 d f w2 R2.sl hl hnm R2.nil_of
      have hlen := addR_len l ⟨a, b, c2, d, f⟩
      generalize addR l ⟨a, b, c2, d, f⟩ = r at e1 hlen
      go_wp2_with fail
      refine e1.mono ?_
      rintro e w3 ⟨A3, c3, rfl, R3, b3⟩
      have hz2 := V2.size
      have L3 := L2.new b3
      have V3 := wrote_grow V2 b3 hz2
      clear e1
      go_wp2
      exact ⟨⟨k - 1, A3, _, c3, _, by omega, hlen, congrArg (Value.int .i64) (by omega), rfl, R3.mono hz2, L3, V3⟩, by simp [intOf]; omega⟩
    · have hk' : ¬ (0 : Int) < (k : Int) := by omega
      go_wp2_with fail
      refine (l1Below_any p 5 wr L (by omega) (by omega)).mono ?_
      rintro e w2 ⟨y, rfl, ⟨hy0, hy1⟩, L2, W2⟩
      have R2 := rowp R W2 hp
      have V2 := wrote_trans W W2
      clear R L W W2
      obtain ⟨y, rfl⟩ : ∃ k : Nat, y = k := ⟨y.toNat, by omega⟩
      go_wp2
      go_loopw [3, 5] (fun lv iv wr => ∃ (k : Nat) (A : Option Addr) (n c : Nat) (zs : List Int), k ≤ 10 ∧ n ≤ 9 ∧ iv = .int .i64 k ∧ lv = .slice A n c ∧ Row wr w.heap.size 70 5 A n c zs ∧ LC wr p 74 ∧ Wrote w wr (some ⟨p, 0, none⟩)) (fun _ iv _ => (intOf iv).toNat)
      case atStart => exact ⟨y, _, n, c, _, by omega, by omega, rfl, rfl, R2, L2, V2⟩
      case round =>
        clear R2 L2 V2 hl hl9 hnm
        obtain ⟨k, A, n, c, zs, hk10, hn, rfl, rfl, R, L, W⟩ := hrel
        have hz := W.size
        obtain ⟨l, hl, rfl⟩ := JB_of n zs R.len
        have hnm : n ≤ maxLen := by unfold maxLen; omega
        by_cases hk : 0 < k
        · have hk' : (0 : Int) < (k : Int) := by omega
          by_cases hn0 : 0 < n
          · have hn0' : (0 : Int) < (n : Int) := by omega
            obtain ⟨b, off, rfl, hb, hcells⟩ := sl_jobs R.sl hn0
            have hids := fun i hi => (hcells i hi).1
            have HI := Lib.hid hids
            clear hcells hids
            have hbw := R.ge _ rfl
            have hbp : b ≠ p := by have : w.heap.size ≤ b := hbw; omega
            have hne : some b ≠ (some (⟨p, 0, none⟩ : Addr)).map (·.block) := ne_map (fun a ha => by obtain rfl := Option.some.inj ha; exact Ne.symm hbp)
            have HNE := Lib.hid hne
            clear hne
            have HRR := Lib.hid R
            have HLL := Lib.hid L
            have HWW := Lib.hid W
            have HLD : Hid (LC wr.drew p 74) := L
            have hnI0 : (0 : Int) < (n : Int) := by omega
            have hnI1 : (n : Int) ≤ 256 := by omega
            have hcA := Lib.hid (l1Below_any p (n : Int) wr.drew HLD.out hnI0 hnI1)
            have hcB := Lib.hid (fun (v : World) (L : LC v p 74) => l1Below_any p 30 v L (by decide) (by decide))
            clear R L W
            go_wp2_with fail
            go_region_held_law (fun w' => ∀ o, w'.cell? ⟨b, o, none⟩ = wr.cell? ⟨b, o, none⟩) (first | assumption | exact (fun o => rfl)) (first | (go_at_call 15; (with_reducible refine hcA.out.mono ?_); rintro e v2 ⟨x, rfl, ⟨hx0, hx1⟩, L2, W2⟩; replace W2 : Wrote wr v2 (some ⟨p, 0, none⟩) := ⟨W2.os, W2.tape, W2.output, W2.size, W2.block⟩; obtain ⟨x, rfl⟩ : ∃ k : Nat, x = k := ⟨x.toNat, by omega⟩; have hxn : x < n := (by omega); have hid0 := HI.out x hxn; generalize (l.getD x default).i = idv at hid0; have hS2 : ∀ o, v2.cell? ⟨b, o, none⟩ = wr.cell? ⟨b, o, none⟩ := fun o => World.cell?_of_block (World.grownBy.block W2 b hb HNE.out); have hz2 := W2.size) | (go_at_call 15; (with_reducible refine (hcB.out v2 L2).mono ?_); rintro e v3 ⟨y3, rfl, ⟨hy30, hy31⟩, L3, W3⟩; have hb2 : b < v2.heap.size := Nat.lt_of_lt_of_le hb hz2; have hS3 : ∀ o, v3.cell? ⟨b, o, none⟩ = wr.cell? ⟨b, o, none⟩ := fun o => (World.cell?_of_block (World.grownBy.block W3 b hb2 HNE.out)).trans (hS2 o); have R3 := rowp (rowp HRR.out W2 hp) W3 hp; have V3 := wrote_trans (wrote_trans HWW.out W2) W3; have hz3 := W3.size; have hwr : IntKind.i64.wrap (1 + y3) = 1 + y3 := (by rw [IntKind.wrap_i64]; omega)) | (go_at_call 50; have e1 := firedRS_any (some ⟨b, off, none⟩) n c l idv (1 + y3) v3 R3.sl hl hnm R3.nil_of; have hlen := firedR_len l idv (1 + y3); generalize firedR l idv (1 + y3) = r at e1 hlen; refine e1.mono ?_; rintro e v4 ⟨A4, c4, rfl, R4, b4⟩; have L4 := L3.new b4; have hzv3 := V3.size; have V4 := wrote_grow V3 b4 hzv3; have hS4 : ∀ o, v4.cell? ⟨b, o, none⟩ = wr.cell? ⟨b, o, none⟩ := fun o => (b4.cell (p := ⟨b, o, none⟩) (Nat.lt_of_lt_of_le hb2 hz3)).trans (hS3 o)))
            clear hS2 hS3 hS4 e1 hwr
            go_wp2
            exact ⟨⟨k - 1, A4, _, c4, _, by omega, hlen, congrArg (Value.int .i64) (by omega), rfl, R4.mono hzv3, L4, V4⟩, by simp [intOf]; omega⟩
          · have hn0' : ¬ (0 : Int) < (n : Int) := by omega
            go_wp2
            go_ret
            exact ⟨A, n, c, _, rfl, hn, R, L, W⟩
        · have hk' : ¬ (0 : Int) < (k : Int) := by omega
          go_wp2
          go_ret
          exact ⟨A, n, c, _, rfl, hn, R, L, W⟩
set_option maxRecDepth 100000 in
set_option maxHeartbeats 4000000 in
theorem l15DrawAny_any (p : Nat) (w : World) (hL : LC w p 74) : Calls Try.prog 39 #[.pointer (some ⟨p, 0, none⟩)] w (RetL w p 74 70 5 10) := by
  have HL := Lib.hid hL
  have hp := hL.lt
  clear hL
  go_enter Try.func39, Try.ntmps39
  go_wp2_with fail
  refine (l15Draw_any p w HL.out).mono ?_
  rintro e w1 ⟨A, n, c, zs, rfl, hn, R1, L1, W1⟩
  go_wp2_with fail
  refine (l1Once_any p 6 w1 L1 (by omega) (by omega)).mono ?_
  rintro e w2 ⟨b, rfl, L2, W2⟩
  have R2 := rowp R1 W2 hp
  have V2 := wrote_trans W1 W2
  clear R1 L1 W1 W2
  cases b with
  | false =>
    go_wp2
    go_ret
    exact ⟨A, n, c, zs, rfl, by omega, R2, L2, V2⟩
  | true =>
    by_cases hn0 : 0 < n
    · have hn0' : (0 : Int) < (n : Int) := by omega
      go_wp2_with fail
      refine (l1Below_any p n w2 L2 (by omega) (by omega)).mono ?_
      rintro e w3 ⟨x, rfl, ⟨hx0, hx1⟩, L3, W3⟩
      have R3 := rowp R2 W3 hp
      have V3 := wrote_trans V2 W3
      clear R2 L2 V2 W3
      obtain ⟨k, rfl⟩ : ∃ k : Nat, x = k := ⟨x.toNat, by omega⟩
      have hkn : k < n := by omega
      go_wp2_with fail
      refine (l1Below_any p 3 w3 L3 (by omega) (by omega)).mono ?_
      rintro e w4 ⟨y, rfl, ⟨hy0, hy1⟩, L4, W4⟩
      have R4 := rowp R3 W4 hp
      have V4 := wrote_trans V3 W4
      clear R3 L3 V3 W4
      obtain ⟨l, hl, rfl⟩ := JB_of n zs R4.len
      obtain ⟨g, cs, rfl, hlo, K, h1, h2, h3, h4⟩ := R4.blk hn0
      obtain ⟨b, off, hA, hb, hcells⟩ := sl_jobs R4.sl hn0
      injection hA with hA
      injection hA with hA1 hA2
      subst hA1
      subst hA2
      simp only [Nat.zero_add] at hcells
      obtain ⟨c0, c1, c2, c3, c4⟩ := hcells k hkn
      obtain ⟨d0, d1, d2, d3, d4⟩ := hcells 0 hn0
      clear hcells d0 d1 d2 d3 h4 K
      simp only [Nat.zero_mul, Nat.zero_add] at d4
      generalize l.getD k default = j at c0 c1 c2 c3 c4
      generalize l.getD 0 default = j0 at d4
      obtain ⟨a, b, c', d, f⟩ := j
      obtain ⟨_, _, _, _, f0⟩ := j0
      simp only at c0 c1 c2 c3 c4 d4
      have HR := Lib.hid R4
      have HV := Lib.hid V4
      have HL4 := Lib.hid L4
      clear R4 V4 L4
      rcases (by omega : y = 0 ∨ y = 1 ∨ y = 2) with rfl | rfl | rfl
      · go_wp2_with fail
        refine (l15BentJob_any p a b c' d f w4 HL4.out).mono ?_
        rintro e w5 ⟨a5, b5, c5, d5, f5, rfl, L5, W5⟩
        have R5 := rowp HR.out W5 hp
        have V5 := wrote_trans HV.out W5
        clear c0 c1 c2 c3 c4 d4
        obtain ⟨g', cs', hA', _, K', h1', _, h3', _⟩ := R5.blk hn0
        injection hA' with hA'
        injection hA' with hA'
        subst hA'
        obtain ⟨u0, g0⟩ := K'.has (i := k * 5) (by omega)
        obtain ⟨u1, g1⟩ := K'.has (i := k * 5 + 1) (by omega)
        obtain ⟨u2, g2⟩ := K'.has (i := k * 5 + 2) (by omega)
        obtain ⟨u3, g3⟩ := K'.has (i := k * 5 + 3) (by omega)
        obtain ⟨u4, g4⟩ := K'.has (i := k * 5 + 4) (by omega)
        have z0 := K'.frozen (k * 5)
        have z1 := K'.frozen (k * 5 + 1)
        have z2 := K'.frozen (k * 5 + 2)
        have z3 := K'.frozen (k * 5 + 3)
        have z4 := K'.frozen (k * 5 + 4)
        have ltg := K'.lt
        obtain ⟨_, Q0⟩ := row_put R5 hn0 (k * 5) a5 (by omega)
        obtain ⟨_, Q1⟩ := row_put Q0 hn0 (k * 5 + 1) b5 (by omega)
        obtain ⟨_, Q2⟩ := row_put Q1 hn0 (k * 5 + 2) c5 (by omega)
        obtain ⟨_, Q3⟩ := row_put Q2 hn0 (k * 5 + 3) d5 (by omega)
        obtain ⟨zq, Q4⟩ := row_put Q3 hn0 (k * 5 + 4) f5 (by omega)
        have HQ := Lib.hid Q4
        have HL_5 := Lib.hid L5
        have HW_5 := Lib.hid V5
        clear Q0 Q1 Q2 Q3 Q4 K' R5 L5 V5 W5
        go_wp2
        go_ret
        exact ⟨some ⟨g, 0, none⟩, n, c, zq, rfl, by omega, HQ.out, by (repeat (first | (with_reducible exact HL_5.out) | (with_reducible refine LC.far ?_ ?_ _; rotate_left; ((try dsimp only); omega)) | (with_reducible refine LC.alloc ?_ _))), by (repeat (first | (with_reducible exact HW_5.out) | (with_reducible refine wrote_far ?_ ?_ _; rotate_left; ((try dsimp only); omega)) | (with_reducible refine wrote_alloc ?_ _)))⟩
      · have L2' := HL4.out.new ((Below.refl w4.heap.size w4).alloc (Nat.le_refl _) (.cells #[.int .i64 a, .int .i64 b, .int .i64 c', .int .i64 d, .int .i64 f] 70))
        have V2' := wrote_grow HV.out ((Below.refl w4.heap.size w4).alloc (Nat.le_refl _) (.cells #[.int .i64 a, .int .i64 b, .int .i64 c', .int .i64 d, .int .i64 f] 70)) HV.out.size
        have HH := Lib.hid (And.intro L2' V2')
        have hwz := HV.out.size
        clear L2' V2' d4
        go_wp2_with (at_builtin; refine wpList_append_row rfl _ _ 25 rfl 70 (.agg #[.int .i64 0, .int .i64 0, .int .i64 0, .int .i64 0, .int .i64 0]) 5 40 Try.underlying25 info_Job (by first | kernel_rfl | simp [Value.cells]) (by decide) w.heap.size (some ⟨g, 0, none⟩) n c (JB l) rfl (World.ownsRow.alloc HR.out _) ⟨w4.heap.size, 0, none⟩ 1 1 [a, b, c', d, f] rfl rfl (cell_five_at _ _ _ _ _ _ _ _ rfl) (by unfold maxLen; omega) (by omega) (by simp; omega) ?_; intro A5 c5 w5 R5 B5)
        go_ret
        exact ⟨A5, _, c5, _, rfl, by omega, R5, HH.out.1.below B5 hp, wrote_grow HH.out.2 B5 (Nat.le_refl _)⟩
      · obtain ⟨g', cs', hA', _, K', h1', _, h3', _⟩ := HR.out.blk hn0
        injection hA' with hA'
        injection hA' with hA'
        subst hA'
        have z4 := K'.frozen (k * 5 + 4)
        have ltg := K'.lt
        obtain ⟨zq, Q4⟩ := row_put HR.out hn0 (k * 5 + 4) f0 (by omega)
        have HQ := Lib.hid Q4
        have HL_5 := HL4
        have HW_5 := HV
        clear Q4 K' c0 c1 c2 c3
        go_wp2
        go_ret
        exact ⟨some ⟨g, 0, none⟩, n, c, zq, rfl, by omega, HQ.out, by (repeat (first | (with_reducible exact HL_5.out) | (with_reducible refine LC.far ?_ ?_ _; rotate_left; ((try dsimp only); omega)) | (with_reducible refine LC.alloc ?_ _))), by (repeat (first | (with_reducible exact HW_5.out) | (with_reducible refine wrote_far ?_ ?_ _; rotate_left; ((try dsimp only); omega)) | (with_reducible refine wrote_alloc ?_ _)))⟩
    · have hn0' : ¬ (0 : Int) < (n : Int) := by omega
      go_wp2
      go_ret
      exact ⟨A, n, c, zs, rfl, by omega, R2, L2, V2⟩
end Go.Proofs.Ytokklkmibjpjnaa
namespace Go.Proofs.Ytokklkmibjpjnaa
set_option linter.unusedSimpArgs false
set_option linter.unusedVariables false
attribute [local go_sem] n_lt2 n_lt3 n_lt4 n_le2 n_le3
open Go.RowKit
attribute [local go_sem] Ext.cell Ext.frozen
structure SX (w v : World) (p gr gn : Nat) (A : Option Addr) (n c : Nat) (B : Option Addr) (m d : Nat) (ci ct ch ce cu : Int) (cp : List Pr) (cq : List Jb) : Prop where
  R : Blk v gr 29 #[.int .i64 0, .int .i64 0, .slice none 0 0, .slice none 0 0, .int .i64 0, .int .i64 0, .int .i64 0]
  N : Blk v gn 29 #[.int .i64 ci, .int .i64 ct, .slice A n c, .slice B m d, .int .i64 ch, .int .i64 ce, .int .i64 cu]
  P : Row v w.heap.size 82 2 A n c (PR cp)
  Q : Row v w.heap.size 70 5 B m d (JB cq)
  D : LC v p 74
  W : Wrote w v (some ⟨p, 0, none⟩)
  na : ∀ a, A = some a → a.block ≠ gr ∧ a.block ≠ gn
  nb : ∀ a, B = some a → a.block ≠ gr ∧ a.block ≠ gn
  ln : cp.length = n
  lm : cq.length = m
  bn : n ≤ 20
  bm : m ≤ 10
theorem SX.dice {w v : World} {p gr gn : Nat} {A : Option Addr} {n c : Nat} {B : Option Addr} {m d : Nat} {ci ct ch ce cu : Int} {cp : List Pr} {cq : List Jb} {v2 : World} (h : SX w v p gr gn A n c B m d ci ct ch ce cu cp cq) (hp : p < w.heap.size) (hr : w.heap.size ≤ gr) (hn : w.heap.size ≤ gn) (hW : Wrote v v2 (some ⟨p, 0, none⟩)) (hD : LC v2 p 74) : SX w v2 p gr gn A n c B m d ci ct ch ce cu cp cq :=
  ⟨h.R.wrote2 hW (by omega), h.N.wrote2 hW (by omega), rowp h.P hW hp, rowp h.Q hW hp, hD, wrote_trans h.W hW, h.na, h.nb, h.ln, h.lm, h.bn, h.bm⟩
theorem SX.below {w v : World} {p gr gn : Nat} {A : Option Addr} {n c : Nat} {B : Option Addr} {m d : Nat} {ci ct ch ce cu : Int} {cp : List Pr} {cq : List Jb} {v2 : World} (h : SX w v p gr gn A n c B m d ci ct ch ce cu cp cq) (hb : Below v.heap.size v v2) : SX w v2 p gr gn A n c B m d ci ct ch ce cu cp cq :=
  ⟨h.R.below hb, h.N.below hb, h.P.below hb, h.Q.below hb, h.D.new hb, wrote_then h.W hb, h.na, h.nb, h.ln, h.lm, h.bn, h.bm⟩
theorem SX.put {w v : World} {p gr gn : Nat} {A : Option Addr} {n c : Nat} {B : Option Addr} {m d : Nat} {ci ct ch ce cu : Int} {cp : List Pr} {cq : List Jb} {A2 : Option Addr} {n2 c2 : Nat} {B2 : Option Addr} {m2 d2 : Nat} {i2 t2 h2 e2 u2 : Int} {p2 : List Pr} {q2 : List Jb} {j : Nat} {x : Value} (h : SX w v p gr gn A n c B m d ci ct ch ce cu cp cq) (hp : p < w.heap.size) (hn : w.heap.size ≤ gn) (hrn : ¬ gr = gn) (hN : Blk (v.setCell ⟨gn, j, none⟩ x) gn 29 #[.int .i64 i2, .int .i64 t2, .slice A2 n2 c2, .slice B2 m2 d2, .int .i64 h2, .int .i64 e2, .int .i64 u2]) (P2 : Row v w.heap.size 82 2 A2 n2 c2 (PR p2)) (Q2 : Row v w.heap.size 70 5 B2 m2 d2 (JB q2)) (na : ∀ a, A2 = some a → a.block ≠ gr ∧ a.block ≠ gn) (nb : ∀ a, B2 = some a → a.block ≠ gr ∧ a.block ≠ gn) (l1 : p2.length = n2) (l2 : q2.length = m2) (b1 : n2 ≤ 20) (b2 : m2 ≤ 10) : SX w (v.setCell ⟨gn, j, none⟩ x) p gr gn A2 n2 c2 B2 m2 d2 i2 t2 h2 e2 u2 p2 q2 :=
  ⟨h.R.far (p := ⟨gn, j, none⟩) hrn _, hN, P2.far (p := ⟨gn, j, none⟩) (fun a ha => (na a ha).2) _, Q2.far (p := ⟨gn, j, none⟩) (fun a ha => (nb a ha).2) _, h.D.far (q := ⟨gn, j, none⟩) (by show p < gn; omega) _, wrote_grow h.W (Below.setCell (Below.refl _ v) (p := ⟨gn, j, none⟩) hn _) (Nat.le_refl _), na, nb, l1, l2, b1, b2⟩
theorem SX.ret {w v : World} {p gr gn : Nat} {A : Option Addr} {n c : Nat} {B : Option Addr} {m d : Nat} {ci ct ch ce cu : Int} {cp : List Pr} {cq : List Jb} (h : SX w v p gr gn A n c B m d ci ct ch ce cu cp cq) (hp : p < w.heap.size) (hr : w.heap.size ≤ gr) : RetSt w p (.returned (.agg #[.int .i64 ci, .int .i64 ct, .slice A n c, .slice B m d, .int .i64 ch, .int .i64 ce, .int .i64 cu])) (World.setCell (World.setCell (World.setCell (World.setCell (World.setCell (World.setCell (World.setCell v ⟨gr, 0, none⟩ (.int .i64 ci)) ⟨gr, 1, none⟩ (.int .i64 ct)) ⟨gr, 2, none⟩ (.slice A n c)) ⟨gr, 3, none⟩ (.slice B m d)) ⟨gr, 4, none⟩ (.int .i64 ch)) ⟨gr, 5, none⟩ (.int .i64 ce)) ⟨gr, 6, none⟩ (.int .i64 cu)) :=
  ⟨A, n, c, B, m, d, ci, ct, ch, ce, cu, cp, cq, rfl, h.ln, h.lm, h.bn, h.bm, row_far7 h.P (fun a ha => (h.na a ha).1) _ _ _ _ _ _ _, row_far7 h.Q (fun a ha => (h.nb a ha).1) _ _ _ _ _ _ _, lc_far7 h.D (by omega) _ _ _ _ _ _ _, wrote_grow h.W (below_far7 (Below.refl _ _) hr _ _ _ _ _ _ _) (Nat.le_refl _)⟩
set_option maxRecDepth 100000 in
set_option maxHeartbeats 8000000 in
theorem l17Draw_any (p : Nat) (w : World) (hL : LC w p 74) : Calls Try.prog 36 #[.pointer (some ⟨p, 0, none⟩)] w (RetSt w p) := by
  have hp := hL.lt
  go_enter Try.func36, Try.ntmps36
  go_wp2_with fail
  refine calls_named ?_
  rintro v0 hv0
  have f0 : Below w.heap.size w v0 := by rw [hv0]; (repeat' (first | (with_reducible exact Below.refl _ _) | (with_reducible assumption) | (with_reducible refine Below.alloc ?_ ?_ _) | (with_reducible refine Below.drew ?_) | (with_reducible refine Below.setCell ?_ ?_ _) | (with_reducible refine bstep (by assumption) ?_ ?_) | (with_reducible exact Nat.le_refl _) | omega | (simp [*]; done) | (simp [*]; omega)))
  have K0 : Blk v0 w.heap.size 29 #[.int .i64 0, .int .i64 0, .slice none 0 0, .slice none 0 0, .int .i64 0, .int .i64 0, .int .i64 0] := by rw [hv0]; exact Blk.new_at _ _ _ _ rfl
  clear hv0
  obtain ⟨gr, hgr⟩ : ∃ g, g = w.heap.size := ⟨_, rfl⟩
  rw [← hgr] at K0
  have hwr : w.heap.size ≤ gr := by omega
  refine (specNewState_s v0).mono ?_
  rintro e v1 ⟨rfl, b1⟩
  have K1 := K0.below b1
  have f1 := bthen f0 b1
  have lr := K0.lt
  have L1 := hL.new f1
  clear K0 f0 b1
  go_wp2_with fail
  refine (l1Below_any p 16 v1 L1 (by decide) (by decide)).mono ?_
  rintro e v2 ⟨x, rfl, ⟨x0, x1⟩, L2, W2⟩
  have K2 := K1.wrote2 W2 (by omega)
  have V2 : Wrote w v2 (some ⟨p, 0, none⟩) := wrote_trans (wrote_below f1 _) W2
  clear K1 L1 W2
  go_wp2_with fail
  refine (l17DrawEntries_zero p x v2 L2 ⟨x0, by omega⟩).mono ?_
  rintro e v3 ⟨O, no, co, A, n, c, B, m, d, ci, ct, ch, ce, cu, cp, cq, rfl, hn, hm, hn1, hm1, P3, Q3, L3, W3⟩
  have z2 := V2.size
  have z3 := W3.size
  have K3 := K2.wrote2 W3 (by omega)
  have V3 : Wrote w v3 (some ⟨p, 0, none⟩) := wrote_trans V2 W3
  have l2 := K2.lt
  clear K2 L2 W3 V2
  go_wp2_with fail
  refine calls_named ?_
  rintro v4 hv4
  obtain ⟨gn, hgn⟩ : ∃ g, g = v3.heap.size := ⟨_, rfl⟩
  have H4 : Hid (SX w v4 p gr gn A n c B m d ci ct ch ce cu cp cq) := by
    have bb : Below v3.heap.size v3 v4 := by rw [hv4]; exact (Below.refl _ _).alloc (Nat.le_refl _) _
    refine Lib.hid ⟨K3.below bb, by rw [hv4]; exact Blk.new_at _ _ _ _ hgn, (P3.below bb).mono z2, (Q3.below bb).mono z2, L3.new bb, wrote_then V3 bb, fun a ha => ?_, fun a ha => ?_, hn, hm, hn1, hm1⟩
    · have h1 := P3.ge a ha
      have h2 := P3.lt a ha
      omega
    · have h1 := Q3.ge a ha
      have h2 := Q3.lt a ha
      omega
  have hwn : w.heap.size ≤ gn := by omega
  have hrn : ¬ gr = gn := by omega
  have hnr : ¬ gn = gr := by omega
  try rw [← hgn]
  try rw [← hgr]
  clear hv4 K3 V3 P3 Q3 L3 hn hm hn1 hm1 hgn hgr l2 lr f1
  refine (l1Once_any p 20 v4 H4.out.D (by decide) (by decide)).mono ?_
  rintro e v5 ⟨b1, rfl, D, W⟩
  have H5 := Lib.hid (H4.out.dice hp hwr hwn W D)
  clear D W H4
  go_upto_if 14 with fail
  go_cut [4] (fun nv wx => nv = .pointer (some ⟨gn, 0, none⟩) ∧ ∃ ci : Int, Hid (SX w wx p gr gn A n c B m d ci ct ch ce cu cp cq))
  case first =>
    cases b1 with
    | false => go_wp2_with fail; go_meet; exact ⟨rfl, ci, H5⟩
    | true =>
      go_wp2_with fail
      refine (l1Below_any p 2 v5 H5.out.D (by decide) (by decide)).mono ?_
      rintro e v6 ⟨y, rfl, ⟨y0, y1⟩, D, W⟩
      have H6 := Lib.hid (H5.out.dice hp hwr hwn W D)
      clear D W H5
      have n_l := H6.out.N.lt
      have n_0 : v6.cell? ⟨gn, 0, none⟩ = some (.int .i64 ci) := H6.out.N.cell 0
      have nf_0 : v6.frozen? ⟨gn, 0, none⟩ = false := H6.out.N.frozen 0
      go_wp2_with fail
      go_meet
      exact ⟨rfl, _, Lib.hid (H6.out.put hp hwn hrn (H6.out.N.set_ 0 _) H6.out.P H6.out.Q H6.out.na H6.out.nb H6.out.ln H6.out.lm H6.out.bn H6.out.bm)⟩
  case rest =>
    clear H5 ci
    obtain ⟨rfl, ci, H6⟩ := hcut
    rename World => v6
    go_wp2_with fail
    refine (l1Once_any p 20 v6 H6.out.D (by decide) (by decide)).mono ?_
    rintro e v7 ⟨b2, rfl, D, W⟩
    have H7 := Lib.hid (H6.out.dice hp hwr hwn W D)
    clear D W H6
    go_upto_if 20 with fail
    go_cut [4] (fun nv wx => nv = .pointer (some ⟨gn, 0, none⟩) ∧ ∃ ct : Int, Hid (SX w wx p gr gn A n c B m d ci ct ch ce cu cp cq))
    case first =>
      cases b2 with
      | false => go_wp2_with fail; go_meet; exact ⟨rfl, ct, H7⟩
      | true =>
        go_wp2_with fail
        refine (l1Below_any p 8 v7 H7.out.D (by decide) (by decide)).mono ?_
        rintro e v8 ⟨y, rfl, ⟨y0, y1⟩, D, W⟩
        have H8 := Lib.hid (H7.out.dice hp hwr hwn W D)
        clear D W H7
        have n_l := H8.out.N.lt
        have n_1 : v8.cell? ⟨gn, 1, none⟩ = some (.int .i64 ct) := H8.out.N.cell 1
        have nf_1 : v8.frozen? ⟨gn, 1, none⟩ = false := H8.out.N.frozen 1
        go_wp2_with fail
        go_meet
        exact ⟨rfl, _, Lib.hid (H8.out.put hp hwn hrn (H8.out.N.set_ 1 _) H8.out.P H8.out.Q H8.out.na H8.out.nb H8.out.ln H8.out.lm H8.out.bn H8.out.bm)⟩
    case rest =>
      clear H7 ct
      obtain ⟨rfl, ct, H8⟩ := hcut
      rename World => v8
      have n_l := H8.out.N.lt
      have n_0 : v8.cell? ⟨gn, 0, none⟩ = some (.int .i64 ci) := H8.out.N.cell 0
      have nf_0 : v8.frozen? ⟨gn, 0, none⟩ = false := H8.out.N.frozen 0
      have n_1 : v8.cell? ⟨gn, 1, none⟩ = some (.int .i64 ct) := H8.out.N.cell 1
      have nf_1 : v8.frozen? ⟨gn, 1, none⟩ = false := H8.out.N.frozen 1
      have n_2 : v8.cell? ⟨gn, 2, none⟩ = some (.slice A n c) := H8.out.N.cell 2
      have nf_2 : v8.frozen? ⟨gn, 2, none⟩ = false := H8.out.N.frozen 2
      have n_3 : v8.cell? ⟨gn, 3, none⟩ = some (.slice B m d) := H8.out.N.cell 3
      have nf_3 : v8.frozen? ⟨gn, 3, none⟩ = false := H8.out.N.frozen 3
      have n_4 : v8.cell? ⟨gn, 4, none⟩ = some (.int .i64 ch) := H8.out.N.cell 4
      have nf_4 : v8.frozen? ⟨gn, 4, none⟩ = false := H8.out.N.frozen 4
      have n_5 : v8.cell? ⟨gn, 5, none⟩ = some (.int .i64 ce) := H8.out.N.cell 5
      have nf_5 : v8.frozen? ⟨gn, 5, none⟩ = false := H8.out.N.frozen 5
      have n_6 : v8.cell? ⟨gn, 6, none⟩ = some (.int .i64 cu) := H8.out.N.cell 6
      have nf_6 : v8.frozen? ⟨gn, 6, none⟩ = false := H8.out.N.frozen 6
      have r_l := H8.out.R.lt
      have r_0 : v8.cell? ⟨gr, 0, none⟩ = some (.int .i64 0) := H8.out.R.cell 0
      have rf_0 : v8.frozen? ⟨gr, 0, none⟩ = false := H8.out.R.frozen 0
      have r_1 : v8.cell? ⟨gr, 1, none⟩ = some (.int .i64 0) := H8.out.R.cell 1
      have rf_1 : v8.frozen? ⟨gr, 1, none⟩ = false := H8.out.R.frozen 1
      have r_2 : v8.cell? ⟨gr, 2, none⟩ = some (.slice none 0 0) := H8.out.R.cell 2
      have rf_2 : v8.frozen? ⟨gr, 2, none⟩ = false := H8.out.R.frozen 2
      have r_3 : v8.cell? ⟨gr, 3, none⟩ = some (.slice none 0 0) := H8.out.R.cell 3
      have rf_3 : v8.frozen? ⟨gr, 3, none⟩ = false := H8.out.R.frozen 3
      have r_4 : v8.cell? ⟨gr, 4, none⟩ = some (.int .i64 0) := H8.out.R.cell 4
      have rf_4 : v8.frozen? ⟨gr, 4, none⟩ = false := H8.out.R.frozen 4
      have r_5 : v8.cell? ⟨gr, 5, none⟩ = some (.int .i64 0) := H8.out.R.cell 5
      have rf_5 : v8.frozen? ⟨gr, 5, none⟩ = false := H8.out.R.frozen 5
      have r_6 : v8.cell? ⟨gr, 6, none⟩ = some (.int .i64 0) := H8.out.R.cell 6
      have rf_6 : v8.frozen? ⟨gr, 6, none⟩ = false := H8.out.R.frozen 6
      go_wp2_with fail
      refine bodyPost_ret (v := .agg #[.int .i64 ci, .int .i64 ct, .slice A n c, .slice B m d, .int .i64 ch, .int .i64 ce, .int .i64 cu]) (by simp [results, Try.results36, go_sem, *]) rfl ?_
      exact H8.out.ret hp hwr
set_option maxRecDepth 100000 in
set_option maxHeartbeats 8000000 in
theorem l17DrawAny_any (p : Nat) (w : World) (hL : LC w p 74) : Calls Try.prog 13 #[.pointer (some ⟨p, 0, none⟩)] w (RetSt w p) := by
  have hp := hL.lt
  go_enter Try.func13, Try.ntmps13
  go_wp2_with fail
  refine calls_named ?_
  rintro v0 hv0
  have f0 : Below w.heap.size w v0 := by rw [hv0]; (repeat' (first | (with_reducible exact Below.refl _ _) | (with_reducible assumption) | (with_reducible refine Below.alloc ?_ ?_ _) | (with_reducible refine Below.drew ?_) | (with_reducible refine Below.setCell ?_ ?_ _) | (with_reducible refine bstep (by assumption) ?_ ?_) | (with_reducible exact Nat.le_refl _) | omega | (simp [*]; done) | (simp [*]; omega)))
  have K0 : Blk v0 w.heap.size 29 #[.int .i64 0, .int .i64 0, .slice none 0 0, .slice none 0 0, .int .i64 0, .int .i64 0, .int .i64 0] := by rw [hv0]; exact Blk.new_at _ _ _ _ rfl
  clear hv0
  obtain ⟨gr, hgr⟩ : ∃ g, g = w.heap.size := ⟨_, rfl⟩
  rw [← hgr] at K0
  have hwr : w.heap.size ≤ gr := by omega
  have lr := K0.lt
  refine (l17Draw_any p v0 (hL.new f0)).mono ?_
  rintro e v3 ⟨A, n, c, B, m, d, ci, ct, ch, ce, cu, cp, cq, rfl, hn, hm, hn1, hm1, P3, Q3, L3, W3⟩
  have z0 := f0.size
  have z3 := W3.size
  have K3 := K0.wrote2 W3 (by omega)
  have V3 : Wrote w v3 (some ⟨p, 0, none⟩) := wrote_trans (wrote_below f0 _) W3
  clear K0 W3
  go_wp2_with fail
  refine calls_named ?_
  rintro v4 hv4
  obtain ⟨gn, hgn⟩ : ∃ g, g = v3.heap.size := ⟨_, rfl⟩
  have H4 : Hid (SX w v4 p gr gn A n c B m d ci ct ch ce cu cp cq) := by
    have bb : Below v3.heap.size v3 v4 := by rw [hv4]; exact (Below.refl _ _).alloc (Nat.le_refl _) _
    refine Lib.hid ⟨K3.below bb, by rw [hv4]; exact Blk.new_at _ _ _ _ hgn, (P3.below bb).mono z0, (Q3.below bb).mono z0, L3.new bb, wrote_then V3 bb, fun a ha => ?_, fun a ha => ?_, hn, hm, hn1, hm1⟩
    · have h1 := P3.ge a ha
      have h2 := P3.lt a ha
      omega
    · have h1 := Q3.ge a ha
      have h2 := Q3.lt a ha
      omega
  have hwn : w.heap.size ≤ gn := by omega
  have hrn : ¬ gr = gn := by omega
  have hnr : ¬ gn = gr := by omega
  try rw [← hgn]
  try rw [← hgr]
  clear hv4 K3 V3 P3 Q3 L3 hn hm hn1 hm1 hgn hgr lr f0
  refine (l1Once_any p 6 v4 H4.out.D (by decide) (by decide)).mono ?_
  rintro e v5 ⟨b1, rfl, D, W⟩
  have H5 := Lib.hid (H4.out.dice hp hwr hwn W D)
  clear D W H4
  go_upto_if 7 with fail
  go_cut [3] (fun nv wx => nv = .pointer (some ⟨gn, 0, none⟩) ∧ ∃ (A : Option Addr) (n c : Nat) (B : Option Addr) (m d : Nat) (ci ct ch ce cu : Int) (cp : List Pr) (cq : List Jb), Hid (SX w wx p gr gn A n c B m d ci ct ch ce cu cp cq))
  case first =>
    cases b1 with
    | false => go_wp2_with fail; go_meet; exact ⟨rfl, _, _, _, _, _, _, _, _, _, _, _, _, _, H5⟩
    | true =>
      go_wp2_with fail
      refine (l1Below_any p 5 v5 H5.out.D (by decide) (by decide)).mono ?_
      rintro e v6 ⟨x, rfl, ⟨x0, x1⟩, D, W⟩
      have H6 := Lib.hid (H5.out.dice hp hwr hwn W D)
      clear D W H5
      rcases (by omega : x = 0 ∨ x = 1 ∨ x = 2 ∨ x = 3 ∨ x = 4) with rfl | rfl | rfl | rfl | rfl
      · go_wp2_with fail
        refine calls_named ?_
        rintro v7 hv7
        obtain ⟨gq, hgq⟩ : ∃ g, g = v6.heap.size := ⟨_, rfl⟩
        have KQ7 : Hid (Blk v7 gq 2 #[.int .i64 (-1), .int .i64 0, .int .i64 3, .int .i64 2001]) := by rw [hv7, hgq]; exact Lib.hid (Blk.new_at _ _ _ _ rfl)
        have H7 : Hid (SX w v7 p gr gn A n c B m d ci ct ch ce cu cp cq) := by rw [hv7]; exact Lib.hid (H6.out.below ((Below.refl _ _).alloc (Nat.le_refl _) _))
        have hq0 := H6.out.W.size
        have hqn := H6.out.N.lt
        try rw [← hgq]
        clear hv7 H6
        refine (l1Below_any p 4 v7 H7.out.D (by decide) (by decide)).mono ?_
        rintro e v8 ⟨y, rfl, ⟨y0, y1⟩, D, W⟩
        have H8 := Lib.hid (H7.out.dice hp hwr hwn W D)
        have KQ8 := Lib.hid (KQ7.out.wrote2 W (by omega))
        clear D W H7 KQ7
        obtain ⟨ky, rfl⟩ : ∃ k : Nat, y = k := ⟨y.toNat, by omega⟩
        obtain ⟨vq, hvq⟩ := lit_cell [-1, 0, 3, 2001] KQ8.out ky (by simp; omega)
        have lq := KQ8.out.lt
        clear KQ8 hgq
        have n_l := H8.out.N.lt
        have n_0 : v8.cell? ⟨gn, 0, none⟩ = some (.int .i64 ci) := H8.out.N.cell 0
        have nf_0 : v8.frozen? ⟨gn, 0, none⟩ = false := H8.out.N.frozen 0
        go_wp2_with fail
        go_meet
        exact ⟨rfl, _, _, _, _, _, _, _, _, _, _, _, _, _, Lib.hid (H8.out.put hp hwn hrn (H8.out.N.set_ 0 _) H8.out.P H8.out.Q H8.out.na H8.out.nb H8.out.ln H8.out.lm H8.out.bn H8.out.bm)⟩
      · go_wp2_with fail
        refine calls_named ?_
        rintro v7 hv7
        obtain ⟨gq, hgq⟩ : ∃ g, g = v6.heap.size := ⟨_, rfl⟩
        have KQ7 : Hid (Blk v7 gq 2 #[.int .i64 (-1), .int .i64 1000001]) := by rw [hv7, hgq]; exact Lib.hid (Blk.new_at _ _ _ _ rfl)
        have H7 : Hid (SX w v7 p gr gn A n c B m d ci ct ch ce cu cp cq) := by rw [hv7]; exact Lib.hid (H6.out.below ((Below.refl _ _).alloc (Nat.le_refl _) _))
        have hq0 := H6.out.W.size
        have hqn := H6.out.N.lt
        try rw [← hgq]
        clear hv7 H6
        refine (l1Below_any p 2 v7 H7.out.D (by decide) (by decide)).mono ?_
        rintro e v8 ⟨y, rfl, ⟨y0, y1⟩, D, W⟩
        have H8 := Lib.hid (H7.out.dice hp hwr hwn W D)
        have KQ8 := Lib.hid (KQ7.out.wrote2 W (by omega))
        clear D W H7 KQ7
        obtain ⟨ky, rfl⟩ : ∃ k : Nat, y = k := ⟨y.toNat, by omega⟩
        obtain ⟨vq, hvq⟩ := lit_cell [-1, 1000001] KQ8.out ky (by simp; omega)
        have lq := KQ8.out.lt
        clear KQ8 hgq
        have n_l := H8.out.N.lt
        have n_1 : v8.cell? ⟨gn, 1, none⟩ = some (.int .i64 ct) := H8.out.N.cell 1
        have nf_1 : v8.frozen? ⟨gn, 1, none⟩ = false := H8.out.N.frozen 1
        go_wp2_with fail
        go_meet
        exact ⟨rfl, _, _, _, _, _, _, _, _, _, _, _, _, _, Lib.hid (H8.out.put hp hwn hrn (H8.out.N.set_ 1 _) H8.out.P H8.out.Q H8.out.na H8.out.nb H8.out.ln H8.out.lm H8.out.bn H8.out.bm)⟩
      · go_wp2_with fail
        refine (l14DrawAny_any p v6 H6.out.D).mono ?_
        rintro e v7 ⟨Ax, nx, cx, zx, rfl, hnx, Rx, D, W⟩
        have H7 := Lib.hid (H6.out.dice hp hwr hwn W D)
        have z6 := H6.out.W.size
        have l6 := H6.out.N.lt
        have l6r := H6.out.R.lt
        clear D W H6
        obtain ⟨lx, hlx, rfl⟩ := PR_of nx zx Rx.len
        have HRX := Lib.hid Rx
        have HLX := Lib.hid hlx
        clear Rx hlx
        have n_l := H7.out.N.lt
        have n_2 : v7.cell? ⟨gn, 2, none⟩ = some (.slice A n c) := H7.out.N.cell 2
        have nf_2 : v7.frozen? ⟨gn, 2, none⟩ = false := H7.out.N.frozen 2
        go_wp2_with fail
        go_meet
        exact ⟨rfl, _, _, _, _, _, _, _, _, _, _, _, _, _, Lib.hid (H7.out.put hp hwn hrn (H7.out.N.set_ 2 _) (HRX.out.mono z6) H7.out.Q (fun a ha => by have := HRX.out.ge a ha; omega) H7.out.nb HLX.out H7.out.lm (by omega) H7.out.bm)⟩
      · go_wp2_with fail
        refine (l15DrawAny_any p v6 H6.out.D).mono ?_
        rintro e v7 ⟨Ax, nx, cx, zx, rfl, hnx, Rx, D, W⟩
        have H7 := Lib.hid (H6.out.dice hp hwr hwn W D)
        have z6 := H6.out.W.size
        have l6 := H6.out.N.lt
        have l6r := H6.out.R.lt
        clear D W H6
        obtain ⟨lx, hlx, rfl⟩ := JB_of nx zx Rx.len
        have HRX := Lib.hid Rx
        have HLX := Lib.hid hlx
        clear Rx hlx
        have n_l := H7.out.N.lt
        have n_3 : v7.cell? ⟨gn, 3, none⟩ = some (.slice B m d) := H7.out.N.cell 3
        have nf_3 : v7.frozen? ⟨gn, 3, none⟩ = false := H7.out.N.frozen 3
        go_wp2_with fail
        go_meet
        exact ⟨rfl, _, _, _, _, _, _, _, _, _, _, _, _, _, Lib.hid (H7.out.put hp hwn hrn (H7.out.N.set_ 3 _) H7.out.P (HRX.out.mono z6) H7.out.na (fun a ha => by have := HRX.out.ge a ha; omega) H7.out.ln HLX.out H7.out.bn (by omega))⟩
      · go_wp2_with fail
        refine (l16DrawAny_any p v6 H6.out.D).mono ?_
        rintro e v7 ⟨xh, xe, xu, rfl, D, W⟩
        have H7 := Lib.hid (H6.out.dice hp hwr hwn W D)
        clear D W H6
        have n_l := H7.out.N.lt
        have n_4 : v7.cell? ⟨gn, 4, none⟩ = some (.int .i64 ch) := H7.out.N.cell 4
        have nf_4 : v7.frozen? ⟨gn, 4, none⟩ = false := H7.out.N.frozen 4
        have n_5 : v7.cell? ⟨gn, 5, none⟩ = some (.int .i64 ce) := H7.out.N.cell 5
        have nf_5 : v7.frozen? ⟨gn, 5, none⟩ = false := H7.out.N.frozen 5
        have n_6 : v7.cell? ⟨gn, 6, none⟩ = some (.int .i64 cu) := H7.out.N.cell 6
        have nf_6 : v7.frozen? ⟨gn, 6, none⟩ = false := H7.out.N.frozen 6
        go_wp2_with fail
        go_meet
        have G1 := H7.out.put hp hwn hrn (x := .int .i64 xh) (H7.out.N.set_ 4 _) H7.out.P H7.out.Q H7.out.na H7.out.nb H7.out.ln H7.out.lm H7.out.bn H7.out.bm
        have G2 := G1.put hp hwn hrn (x := .int .i64 xe) (G1.N.set_ 5 _) G1.P G1.Q G1.na G1.nb G1.ln G1.lm G1.bn G1.bm
        have G3 := G2.put hp hwn hrn (x := .int .i64 xu) (G2.N.set_ 6 _) G2.P G2.Q G2.na G2.nb G2.ln G2.lm G2.bn G2.bm
        exact ⟨rfl, _, _, _, _, _, _, _, _, _, _, _, _, _, Lib.hid G3⟩

  case rest =>
    clear H5 A n c B m d ci ct ch ce cu cp cq
    obtain ⟨rfl, A, n, c, B, m, d, ci, ct, ch, ce, cu, cp, cq, H8⟩ := hcut
    rename World => v8
    have n_l := H8.out.N.lt
    have n_0 : v8.cell? ⟨gn, 0, none⟩ = some (.int .i64 ci) := H8.out.N.cell 0
    have nf_0 : v8.frozen? ⟨gn, 0, none⟩ = false := H8.out.N.frozen 0
    have n_1 : v8.cell? ⟨gn, 1, none⟩ = some (.int .i64 ct) := H8.out.N.cell 1
    have nf_1 : v8.frozen? ⟨gn, 1, none⟩ = false := H8.out.N.frozen 1
    have n_2 : v8.cell? ⟨gn, 2, none⟩ = some (.slice A n c) := H8.out.N.cell 2
    have nf_2 : v8.frozen? ⟨gn, 2, none⟩ = false := H8.out.N.frozen 2
    have n_3 : v8.cell? ⟨gn, 3, none⟩ = some (.slice B m d) := H8.out.N.cell 3
    have nf_3 : v8.frozen? ⟨gn, 3, none⟩ = false := H8.out.N.frozen 3
    have n_4 : v8.cell? ⟨gn, 4, none⟩ = some (.int .i64 ch) := H8.out.N.cell 4
    have nf_4 : v8.frozen? ⟨gn, 4, none⟩ = false := H8.out.N.frozen 4
    have n_5 : v8.cell? ⟨gn, 5, none⟩ = some (.int .i64 ce) := H8.out.N.cell 5
    have nf_5 : v8.frozen? ⟨gn, 5, none⟩ = false := H8.out.N.frozen 5
    have n_6 : v8.cell? ⟨gn, 6, none⟩ = some (.int .i64 cu) := H8.out.N.cell 6
    have nf_6 : v8.frozen? ⟨gn, 6, none⟩ = false := H8.out.N.frozen 6
    have r_l := H8.out.R.lt
    have r_0 : v8.cell? ⟨gr, 0, none⟩ = some (.int .i64 0) := H8.out.R.cell 0
    have rf_0 : v8.frozen? ⟨gr, 0, none⟩ = false := H8.out.R.frozen 0
    have r_1 : v8.cell? ⟨gr, 1, none⟩ = some (.int .i64 0) := H8.out.R.cell 1
    have rf_1 : v8.frozen? ⟨gr, 1, none⟩ = false := H8.out.R.frozen 1
    have r_2 : v8.cell? ⟨gr, 2, none⟩ = some (.slice none 0 0) := H8.out.R.cell 2
    have rf_2 : v8.frozen? ⟨gr, 2, none⟩ = false := H8.out.R.frozen 2
    have r_3 : v8.cell? ⟨gr, 3, none⟩ = some (.slice none 0 0) := H8.out.R.cell 3
    have rf_3 : v8.frozen? ⟨gr, 3, none⟩ = false := H8.out.R.frozen 3
    have r_4 : v8.cell? ⟨gr, 4, none⟩ = some (.int .i64 0) := H8.out.R.cell 4
    have rf_4 : v8.frozen? ⟨gr, 4, none⟩ = false := H8.out.R.frozen 4
    have r_5 : v8.cell? ⟨gr, 5, none⟩ = some (.int .i64 0) := H8.out.R.cell 5
    have rf_5 : v8.frozen? ⟨gr, 5, none⟩ = false := H8.out.R.frozen 5
    have r_6 : v8.cell? ⟨gr, 6, none⟩ = some (.int .i64 0) := H8.out.R.cell 6
    have rf_6 : v8.frozen? ⟨gr, 6, none⟩ = false := H8.out.R.frozen 6
    go_wp2_with fail
    refine bodyPost_ret (v := .agg #[.int .i64 ci, .int .i64 ct, .slice A n c, .slice B m d, .int .i64 ch, .int .i64 ce, .int .i64 cu]) (by simp [results, Try.results13, go_sem, *]) rfl ?_
    exact H8.out.ret hp hwr
end Go.Proofs.Ytokklkmibjpjnaa
namespace Go.Proofs.Ytokklkmibjpjnaa
set_option linter.unusedSimpArgs false
set_option linter.unusedVariables false
attribute [local go_sem] n_lt2 n_lt3 n_lt4 n_le2 n_le3
open Go.RowKit
attribute [local go_sem] Ext.cell Ext.frozen
/-- Two drawn states, in their boxes; the results' boxes; the dice. -/
structure TX (w v : World) (p g1 g2 g5 g6 : Nat) (A_a : Option Addr) (n_a c_a : Nat) (B_a : Option Addr) (m_a d_a : Nat) (i_a t_a h_a e_a u_a : Int) (P_a : List Pr) (Q_a : List Jb) (A_b : Option Addr) (n_b c_b : Nat) (B_b : Option Addr) (m_b d_b : Nat) (i_b t_b h_b e_b u_b : Int) (P_b : List Pr) (Q_b : List Jb) : Prop where
  R1 : Blk v g1 29 #[.int .i64 0, .int .i64 0, .slice none 0 0, .slice none 0 0, .int .i64 0, .int .i64 0, .int .i64 0]
  R2 : Blk v g2 29 #[.int .i64 0, .int .i64 0, .slice none 0 0, .slice none 0 0, .int .i64 0, .int .i64 0, .int .i64 0]
  N5 : Blk v g5 29 #[.int .i64 i_a, .int .i64 t_a, .slice A_a n_a c_a, .slice B_a m_a d_a, .int .i64 h_a, .int .i64 e_a, .int .i64 u_a]
  N6 : Blk v g6 29 #[.int .i64 i_b, .int .i64 t_b, .slice A_b n_b c_b, .slice B_b m_b d_b, .int .i64 h_b, .int .i64 e_b, .int .i64 u_b]
  Pa : Row v (p + 1) 82 2 A_a n_a c_a (PR P_a)
  Qa : Row v (p + 1) 70 5 B_a m_a d_a (JB Q_a)
  Pb : Row v (p + 1) 82 2 A_b n_b c_b (PR P_b)
  Qb : Row v (p + 1) 70 5 B_b m_b d_b (JB Q_b)
  D : LC v p 74
  F : Below w.heap.size w v
  fa : ∀ a, A_a = some a → a.block ≠ g6
  fb : ∀ a, B_a = some a → a.block ≠ g6
  fc : ∀ a, A_b = some a → a.block ≠ g6
  fd : ∀ a, B_b = some a → a.block ≠ g6
  la : P_a.length = n_a
  lb : Q_a.length = m_a
  lc : P_b.length = n_b
  ld : Q_b.length = m_b
  ba : n_a ≤ 20
  bb : m_a ≤ 10
  bc : n_b ≤ 20
  bd : m_b ≤ 10
/-- Where the boxes lie. -/
structure TG (w : World) (p g1 g2 g5 g6 : Nat) : Prop where
  w1 : w.heap.size ≤ g1
  w2 : w.heap.size ≤ g2
  p1 : g1 < p
  p2 : g2 < p
  p5 : p < g5
  p6 : p < g6
  n12 : g1 ≠ g2
  n56 : g5 ≠ g6
theorem TX.dice {w v : World} {p g1 g2 g5 g6 : Nat} {A_a : Option Addr} {n_a c_a : Nat} {B_a : Option Addr} {m_a d_a : Nat} {i_a t_a h_a e_a u_a : Int} {P_a : List Pr} {Q_a : List Jb} {A_b : Option Addr} {n_b c_b : Nat} {B_b : Option Addr} {m_b d_b : Nat} {i_b t_b h_b e_b u_b : Int} {P_b : List Pr} {Q_b : List Jb} {v2 : World} (h : TX w v p g1 g2 g5 g6 A_a n_a c_a B_a m_a d_a i_a t_a h_a e_a u_a P_a Q_a A_b n_b c_b B_b m_b d_b i_b t_b h_b e_b u_b P_b Q_b) (G : TG w p g1 g2 g5 g6) (hW : Wrote v v2 (some ⟨p, 0, none⟩)) (hD : LC v2 p 74) : TX w v2 p g1 g2 g5 g6 A_a n_a c_a B_a m_a d_a i_a t_a h_a e_a u_a P_a Q_a A_b n_b c_b B_b m_b d_b i_b t_b h_b e_b u_b P_b Q_b := by
  obtain ⟨w1, w2, p1, p2, p5, p6, n12, n56⟩ := G
  exact ⟨h.R1.wrote2 hW (by omega), h.R2.wrote2 hW (by omega), h.N5.wrote2 hW (by omega), h.N6.wrote2 hW (by omega), rowp h.Pa hW (Nat.lt_succ_self p), rowp h.Qa hW (Nat.lt_succ_self p), rowp h.Pb hW (Nat.lt_succ_self p), rowp h.Qb hW (Nat.lt_succ_self p), hD, hW.below h.F h.F.size (fun a h_a => by obtain rfl := Option.some.inj h_a; show w.heap.size ≤ p; omega), h.fa, h.fb, h.fc, h.fd, h.la, h.lb, h.lc, h.ld, h.ba, h.bb, h.bc, h.bd⟩
theorem TX.below {w v : World} {p g1 g2 g5 g6 : Nat} {A_a : Option Addr} {n_a c_a : Nat} {B_a : Option Addr} {m_a d_a : Nat} {i_a t_a h_a e_a u_a : Int} {P_a : List Pr} {Q_a : List Jb} {A_b : Option Addr} {n_b c_b : Nat} {B_b : Option Addr} {m_b d_b : Nat} {i_b t_b h_b e_b u_b : Int} {P_b : List Pr} {Q_b : List Jb} {v2 : World} (h : TX w v p g1 g2 g5 g6 A_a n_a c_a B_a m_a d_a i_a t_a h_a e_a u_a P_a Q_a A_b n_b c_b B_b m_b d_b i_b t_b h_b e_b u_b P_b Q_b) (hb : Below v.heap.size v v2) : TX w v2 p g1 g2 g5 g6 A_a n_a c_a B_a m_a d_a i_a t_a h_a e_a u_a P_a Q_a A_b n_b c_b B_b m_b d_b i_b t_b h_b e_b u_b P_b Q_b :=
  ⟨h.R1.below hb, h.R2.below hb, h.N5.below hb, h.N6.below hb, h.Pa.below hb, h.Qa.below hb, h.Pb.below hb, h.Qb.below hb, h.D.new hb, btr h.F (hb.mono h.F.size), h.fa, h.fb, h.fc, h.fd, h.la, h.lb, h.lc, h.ld, h.ba, h.bb, h.bc, h.bd⟩
theorem TX.put7 {w v : World} {p g1 g2 g5 g6 : Nat} {A_a : Option Addr} {n_a c_a : Nat} {B_a : Option Addr} {m_a d_a : Nat} {i_a t_a h_a e_a u_a : Int} {P_a : List Pr} {Q_a : List Jb} {A_b : Option Addr} {n_b c_b : Nat} {B_b : Option Addr} {m_b d_b : Nat} {i_b t_b h_b e_b u_b : Int} {P_b : List Pr} {Q_b : List Jb} {A_n : Option Addr} {n_n c_n : Nat} {B_n : Option Addr} {m_n d_n : Nat} {i_n t_n h_n e_n u_n : Int} {P_n : List Pr} {Q_n : List Jb} (h : TX w v p g1 g2 g5 g6 A_a n_a c_a B_a m_a d_a i_a t_a h_a e_a u_a P_a Q_a A_b n_b c_b B_b m_b d_b i_b t_b h_b e_b u_b P_b Q_b) (G : TG w p g1 g2 g5 g6) (P2 : Row v (p + 1) 82 2 A_n n_n c_n (PR P_n)) (f2 : ∀ a, A_n = some a → a.block ≠ g6) (l2 : P_n.length = n_n) (b2 : n_n ≤ 20) (Q2 : Row v (p + 1) 70 5 B_n m_n d_n (JB Q_n)) (f3 : ∀ a, B_n = some a → a.block ≠ g6) (l3 : Q_n.length = m_n) (b3 : m_n ≤ 10) : TX w (World.setCell (World.setCell (World.setCell (World.setCell (World.setCell (World.setCell (World.setCell v ⟨g6, 0, none⟩ (.int .i64 i_n)) ⟨g6, 1, none⟩ (.int .i64 t_n)) ⟨g6, 2, none⟩ (.slice A_n n_n c_n)) ⟨g6, 3, none⟩ (.slice B_n m_n d_n)) ⟨g6, 4, none⟩ (.int .i64 h_n)) ⟨g6, 5, none⟩ (.int .i64 e_n)) ⟨g6, 6, none⟩ (.int .i64 u_n)) p g1 g2 g5 g6 A_a n_a c_a B_a m_a d_a i_a t_a h_a e_a u_a P_a Q_a A_n n_n c_n B_n m_n d_n i_n t_n h_n e_n u_n P_n Q_n := by
  obtain ⟨w1, w2, p1, p2, p5, p6, n12, n56⟩ := G
  exact ⟨blk_fars7 h.R1 (by show g1 ≠ g6; omega) _ _ _ _ _ _ _, blk_fars7 h.R2 (by show g2 ≠ g6; omega) _ _ _ _ _ _ _, blk_fars7 h.N5 n56 _ _ _ _ _ _ _, blk_sets7 h.N6 _ _ _ _ _ _ _, row_far7 h.Pa h.fa _ _ _ _ _ _ _, row_far7 h.Qa h.fb _ _ _ _ _ _ _, row_far7 P2 f2 _ _ _ _ _ _ _, row_far7 Q2 f3 _ _ _ _ _ _ _, lc_far7 h.D p6 _ _ _ _ _ _ _, below_far7 h.F (by show w.heap.size ≤ g6; omega) _ _ _ _ _ _ _, h.fa, h.fb, f2, f3, h.la, h.lb, l2, l3, h.ba, h.bb, b2, b3⟩
theorem TX.put2 {w v : World} {p g1 g2 g5 g6 : Nat} {A_a : Option Addr} {n_a c_a : Nat} {B_a : Option Addr} {m_a d_a : Nat} {i_a t_a h_a e_a u_a : Int} {P_a : List Pr} {Q_a : List Jb} {A_b : Option Addr} {n_b c_b : Nat} {B_b : Option Addr} {m_b d_b : Nat} {i_b t_b h_b e_b u_b : Int} {P_b : List Pr} {Q_b : List Jb} {A_n : Option Addr} {n_n c_n : Nat} {P_n : List Pr} (h : TX w v p g1 g2 g5 g6 A_a n_a c_a B_a m_a d_a i_a t_a h_a e_a u_a P_a Q_a A_b n_b c_b B_b m_b d_b i_b t_b h_b e_b u_b P_b Q_b) (G : TG w p g1 g2 g5 g6) (P2 : Row v (p + 1) 82 2 A_n n_n c_n (PR P_n)) (f2 : ∀ a, A_n = some a → a.block ≠ g6) (l2 : P_n.length = n_n) (b2 : n_n ≤ 20) : TX w (World.setCell v ⟨g6, 2, none⟩ (.slice A_n n_n c_n)) p g1 g2 g5 g6 A_a n_a c_a B_a m_a d_a i_a t_a h_a e_a u_a P_a Q_a A_n n_n c_n B_b m_b d_b i_b t_b h_b e_b u_b P_n Q_b := by
  obtain ⟨w1, w2, p1, p2, p5, p6, n12, n56⟩ := G
  exact ⟨(h.R1).far (p := ⟨g6, 2, none⟩) (by show g1 ≠ g6; omega) _, (h.R2).far (p := ⟨g6, 2, none⟩) (by show g2 ≠ g6; omega) _, (h.N5).far (p := ⟨g6, 2, none⟩) n56 _, h.N6.set_ 2 _, (h.Pa).far (p := ⟨g6, 2, none⟩) h.fa _, (h.Qa).far (p := ⟨g6, 2, none⟩) h.fb _, (P2).far (p := ⟨g6, 2, none⟩) f2 _, (h.Qb).far (p := ⟨g6, 2, none⟩) h.fd _, (h.D).far (q := ⟨g6, 2, none⟩) p6 _, (h.F).setCell (p := ⟨g6, 2, none⟩) (by show w.heap.size ≤ g6; omega) _, h.fa, h.fb, f2, h.fd, h.la, h.lb, l2, h.ld, h.ba, h.bb, b2, h.bd⟩
def RetSame (w : World) (e : Ending) (w' : World) : Prop := ∃ (A_a : Option Addr) (n_a c_a : Nat) (B_a : Option Addr) (m_a d_a : Nat) (i_a t_a h_a e_a u_a : Int) (P_a : List Pr) (Q_a : List Jb) (A_b : Option Addr) (n_b c_b : Nat) (B_b : Option Addr) (m_b d_b : Nat) (i_b t_b h_b e_b u_b : Int) (P_b : List Pr) (Q_b : List Jb), e = .returned (.tuple #[.agg #[.int .i64 i_a, .int .i64 t_a, .slice A_a n_a c_a, .slice B_a m_a d_a, .int .i64 h_a, .int .i64 e_a, .int .i64 u_a], .agg #[.int .i64 i_b, .int .i64 t_b, .slice A_b n_b c_b, .slice B_b m_b d_b, .int .i64 h_b, .int .i64 e_b, .int .i64 u_b]]) ∧ P_a.length = n_a ∧ Q_a.length = m_a ∧ P_b.length = n_b ∧ Q_b.length = m_b ∧ n_a ≤ 20 ∧ m_a ≤ 10 ∧ n_b ≤ 20 ∧ m_b ≤ 10 ∧ Sl w' 2 A_a n_a (PR P_a) ∧ Sl w' 5 B_a m_a (JB Q_a) ∧ Sl w' 2 A_b n_b (PR P_b) ∧ Sl w' 5 B_b m_b (JB Q_b) ∧ Below w.heap.size w w'
theorem appR_len {ci ct ch ce cu : Int} {cp : List Pr} {cq : List Jb} {ex et ec es ek ea eb eg eh : Int} {ri rt rh re ru : Int} {rp : List Pr} {rq : List Jb} {rb : Bool} (h : appR ci ct ch ce cu cp cq ex et ec es ek ea eb eg eh = ((ri, rt, ⟨rp, rq, rh, re, ru⟩), rb)) (h1 : cp.length ≤ 20) (h2 : cq.length ≤ 10) : rp.length ≤ 20 ∧ rq.length ≤ 10 := by
  unfold appR at h
  cases q1 : stateB ci ct ch ce cu cp cq with
  | false =>
    rw [if_neg (by rw [q1]; decide)] at h
    injection h with h3 h4
    injection h3 with h3 h5
    injection h5 with h5 h6
    injection h6 with h6 h7 h8 h9 h10
    subst h6 h7
    simp
  | true =>
  rw [if_pos q1] at h
  cases q2 : nextB ci ct ex et ec es ek ea eb eg eh with
  | false =>
    rw [if_neg (by rw [q2]; decide)] at h
    injection h with h3 h4
    injection h3 with h3 h5
    injection h5 with h5 h6
    injection h6 with h6 h7 h8 h9 h10
    subst h6 h7
    exact ⟨h1, h2⟩
  | true =>
  rw [if_pos q2] at h
  injection h with h3 _
  injection h3 with h3 h5
  injection h5 with h5 h6
  have h4 := stateB_lens (app_ok q1 q2)
  rw [h6] at h4
  simp only at h4
  omega
theorem n5_far {v : World} {g b : Nat} {x0 x1 x2 x3 x4 x5 x6 y0 y1 y2 y3 y4 y5 y6 : Value} (hc : v.cell? ⟨b, 0, none⟩ = some x0 ∧ v.cell? ⟨b, 1, none⟩ = some x1 ∧ v.cell? ⟨b, 2, none⟩ = some x2 ∧ v.cell? ⟨b, 3, none⟩ = some x3 ∧ v.cell? ⟨b, 4, none⟩ = some x4 ∧ v.cell? ⟨b, 5, none⟩ = some x5 ∧ v.cell? ⟨b, 6, none⟩ = some x6) (h : ¬ b = g) : World.cell? (World.setCell (World.setCell (World.setCell (World.setCell (World.setCell (World.setCell (World.setCell v ⟨g, 0, none⟩ y0) ⟨g, 1, none⟩ y1) ⟨g, 2, none⟩ y2) ⟨g, 3, none⟩ y3) ⟨g, 4, none⟩ y4) ⟨g, 5, none⟩ y5) ⟨g, 6, none⟩ y6) ⟨b, 0, none⟩ = some x0 ∧ World.cell? (World.setCell (World.setCell (World.setCell (World.setCell (World.setCell (World.setCell (World.setCell v ⟨g, 0, none⟩ y0) ⟨g, 1, none⟩ y1) ⟨g, 2, none⟩ y2) ⟨g, 3, none⟩ y3) ⟨g, 4, none⟩ y4) ⟨g, 5, none⟩ y5) ⟨g, 6, none⟩ y6) ⟨b, 1, none⟩ = some x1 ∧ World.cell? (World.setCell (World.setCell (World.setCell (World.setCell (World.setCell (World.setCell (World.setCell v ⟨g, 0, none⟩ y0) ⟨g, 1, none⟩ y1) ⟨g, 2, none⟩ y2) ⟨g, 3, none⟩ y3) ⟨g, 4, none⟩ y4) ⟨g, 5, none⟩ y5) ⟨g, 6, none⟩ y6) ⟨b, 2, none⟩ = some x2 ∧ World.cell? (World.setCell (World.setCell (World.setCell (World.setCell (World.setCell (World.setCell (World.setCell v ⟨g, 0, none⟩ y0) ⟨g, 1, none⟩ y1) ⟨g, 2, none⟩ y2) ⟨g, 3, none⟩ y3) ⟨g, 4, none⟩ y4) ⟨g, 5, none⟩ y5) ⟨g, 6, none⟩ y6) ⟨b, 3, none⟩ = some x3 ∧ World.cell? (World.setCell (World.setCell (World.setCell (World.setCell (World.setCell (World.setCell (World.setCell v ⟨g, 0, none⟩ y0) ⟨g, 1, none⟩ y1) ⟨g, 2, none⟩ y2) ⟨g, 3, none⟩ y3) ⟨g, 4, none⟩ y4) ⟨g, 5, none⟩ y5) ⟨g, 6, none⟩ y6) ⟨b, 4, none⟩ = some x4 ∧ World.cell? (World.setCell (World.setCell (World.setCell (World.setCell (World.setCell (World.setCell (World.setCell v ⟨g, 0, none⟩ y0) ⟨g, 1, none⟩ y1) ⟨g, 2, none⟩ y2) ⟨g, 3, none⟩ y3) ⟨g, 4, none⟩ y4) ⟨g, 5, none⟩ y5) ⟨g, 6, none⟩ y6) ⟨b, 5, none⟩ = some x5 ∧ World.cell? (World.setCell (World.setCell (World.setCell (World.setCell (World.setCell (World.setCell (World.setCell v ⟨g, 0, none⟩ y0) ⟨g, 1, none⟩ y1) ⟨g, 2, none⟩ y2) ⟨g, 3, none⟩ y3) ⟨g, 4, none⟩ y4) ⟨g, 5, none⟩ y5) ⟨g, 6, none⟩ y6) ⟨b, 6, none⟩ = some x6 := by
  have hn : g ≠ b := fun e => h e.symm
  have e : ∀ o, World.cell? (World.setCell (World.setCell (World.setCell (World.setCell (World.setCell (World.setCell (World.setCell v ⟨g, 0, none⟩ y0) ⟨g, 1, none⟩ y1) ⟨g, 2, none⟩ y2) ⟨g, 3, none⟩ y3) ⟨g, 4, none⟩ y4) ⟨g, 5, none⟩ y5) ⟨g, 6, none⟩ y6) ⟨b, o, none⟩ = v.cell? ⟨b, o, none⟩ := fun o => by
    rw [World.cell?_setCell_far _ _ _ _ hn, World.cell?_setCell_far _ _ _ _ hn, World.cell?_setCell_far _ _ _ _ hn, World.cell?_setCell_far _ _ _ _ hn, World.cell?_setCell_far _ _ _ _ hn, World.cell?_setCell_far _ _ _ _ hn, World.cell?_setCell_far _ _ _ _ hn]
  exact ⟨(e 0).trans hc.1, (e 1).trans hc.2.1, (e 2).trans hc.2.2.1, (e 3).trans hc.2.2.2.1, (e 4).trans hc.2.2.2.2.1, (e 5).trans hc.2.2.2.2.2.1, (e 6).trans hc.2.2.2.2.2.2⟩
theorem TX.ret {w v : World} {p g1 g2 g5 g6 : Nat} {A_a : Option Addr} {n_a c_a : Nat} {B_a : Option Addr} {m_a d_a : Nat} {i_a t_a h_a e_a u_a : Int} {P_a : List Pr} {Q_a : List Jb} {A_b : Option Addr} {n_b c_b : Nat} {B_b : Option Addr} {m_b d_b : Nat} {i_b t_b h_b e_b u_b : Int} {P_b : List Pr} {Q_b : List Jb} (h : TX w v p g1 g2 g5 g6 A_a n_a c_a B_a m_a d_a i_a t_a h_a e_a u_a P_a Q_a A_b n_b c_b B_b m_b d_b i_b t_b h_b e_b u_b P_b Q_b) (G : TG w p g1 g2 g5 g6) : RetSame w (.returned (.tuple #[.agg #[.int .i64 i_a, .int .i64 t_a, .slice A_a n_a c_a, .slice B_a m_a d_a, .int .i64 h_a, .int .i64 e_a, .int .i64 u_a], .agg #[.int .i64 i_b, .int .i64 t_b, .slice A_b n_b c_b, .slice B_b m_b d_b, .int .i64 h_b, .int .i64 e_b, .int .i64 u_b]])) (World.drew (World.setCell (World.setCell (World.setCell (World.setCell (World.setCell (World.setCell (World.setCell (World.setCell (World.setCell (World.setCell (World.setCell (World.setCell (World.setCell (World.setCell v ⟨g1, 0, none⟩ (.int .i64 i_a)) ⟨g1, 1, none⟩ (.int .i64 t_a)) ⟨g1, 2, none⟩ (.slice A_a n_a c_a)) ⟨g1, 3, none⟩ (.slice B_a m_a d_a)) ⟨g1, 4, none⟩ (.int .i64 h_a)) ⟨g1, 5, none⟩ (.int .i64 e_a)) ⟨g1, 6, none⟩ (.int .i64 u_a)) ⟨g2, 0, none⟩ (.int .i64 i_b)) ⟨g2, 1, none⟩ (.int .i64 t_b)) ⟨g2, 2, none⟩ (.slice A_b n_b c_b)) ⟨g2, 3, none⟩ (.slice B_b m_b d_b)) ⟨g2, 4, none⟩ (.int .i64 h_b)) ⟨g2, 5, none⟩ (.int .i64 e_b)) ⟨g2, 6, none⟩ (.int .i64 u_b))) := by
  obtain ⟨w1, w2, p1, p2, p5, p6, n12, n56⟩ := G
  exact ⟨A_a, n_a, c_a, B_a, m_a, d_a, i_a, t_a, h_a, e_a, u_a, P_a, Q_a, A_b, n_b, c_b, B_b, m_b, d_b, i_b, t_b, h_b, e_b, u_b, P_b, Q_b, rfl, h.la, h.lb, h.lc, h.ld, h.ba, h.bb, h.bc, h.bd, (Row.drew (row_far7 (row_far7 h.Pa (fun a h_a => by have := h.Pa.ge a h_a; omega) _ _ _ _ _ _ _) (fun a h_a => by have := h.Pa.ge a h_a; omega) _ _ _ _ _ _ _)).sl, (Row.drew (row_far7 (row_far7 h.Qa (fun a h_a => by have := h.Qa.ge a h_a; omega) _ _ _ _ _ _ _) (fun a h_a => by have := h.Qa.ge a h_a; omega) _ _ _ _ _ _ _)).sl, (Row.drew (row_far7 (row_far7 h.Pb (fun a h_a => by have := h.Pb.ge a h_a; omega) _ _ _ _ _ _ _) (fun a h_a => by have := h.Pb.ge a h_a; omega) _ _ _ _ _ _ _)).sl, (Row.drew (row_far7 (row_far7 h.Qb (fun a h_a => by have := h.Qb.ge a h_a; omega) _ _ _ _ _ _ _) (fun a h_a => by have := h.Qb.ge a h_a; omega) _ _ _ _ _ _ _)).sl, Below.drew (below_far7 (below_far7 h.F w1 _ _ _ _ _ _ _) w2 _ _ _ _ _ _ _)⟩
set_option maxRecDepth 100000 in
set_option maxHeartbeats 8000000 in
theorem DrawSameState_any (A : Option Addr) (n cap : Nat) (bs : List Int) (w : World) (hS : SlB w A n bs) (hn : n ≤ 4096) : Calls Try.prog 5 #[.slice A n cap] w (RetSame w) := by
  have HS := Lib.hid hS
  clear hS
  go_enter Try.func5, Try.ntmps5
  go_wp2_with fail
  refine calls_named ?_
  rintro v0 hv0
  have f0 : Below w.heap.size w v0 := by rw [hv0]; (repeat' (first | (with_reducible exact Below.refl _ _) | (with_reducible assumption) | (with_reducible refine Below.alloc ?_ ?_ _) | (with_reducible refine Below.drew ?_) | (with_reducible refine Below.setCell ?_ ?_ _) | (with_reducible refine bstep (by assumption) ?_ ?_) | (with_reducible exact Nat.le_refl _) | omega | (simp [*]; done) | (simp [*]; omega)))
  have z0 : v0.heap.size = w.heap.size + 2 := by rw [hv0]; simp
  have K1 : Blk v0 w.heap.size 29 #[.int .i64 0, .int .i64 0, .slice none 0 0, .slice none 0 0, .int .i64 0, .int .i64 0, .int .i64 0] := by rw [hv0]; exact (Blk.new_at _ _ _ _ rfl).alloc _
  have K2 : Blk v0 (w.heap.size + 1) 29 #[.int .i64 0, .int .i64 0, .slice none 0 0, .slice none 0 0, .int .i64 0, .int .i64 0, .int .i64 0] := by rw [hv0]; exact Blk.new_at _ _ _ _ (by simp)
  clear hv0
  refine (l1New_any A n cap bs v0 (HS.out.below f0) hn).mono ?_
  rintro e v1 ⟨rfl, L1, b1⟩
  have K11 := K1.below b1
  have K21 := K2.below b1
  have f1 := bthen f0 b1
  have hp1 := L1.lt
  have zv := b1.size
  clear K1 K2 f0 b1 HS hn
  obtain ⟨p, hp⟩ : ∃ q, q = v0.heap.size := ⟨_, rfl⟩
  rw [← hp] at L1 hp1
  try rw [← hp]
  obtain ⟨g1, hg1⟩ : ∃ q, q = w.heap.size := ⟨_, rfl⟩
  obtain ⟨g2, hg2⟩ : ∃ q, q = w.heap.size + 1 := ⟨_, rfl⟩
  rw [← hg1] at K11
  rw [← hg2] at K21
  try rw [← hg2]
  try rw [← hg1]
  have hwp : w.heap.size ≤ p := by omega
  have w1 : w.heap.size ≤ g1 := by omega
  have w2 : w.heap.size ≤ g2 := by omega
  have q1 : g1 < p := by omega
  have q2 : g2 < p := by omega
  have q12 : g1 ≠ g2 := by omega
  clear hp hg1 hg2 z0
  go_wp2_with fail
  refine (l17DrawAny_any p v1 L1).mono ?_
  rintro e v2 ⟨A_a, n_a, c_a, B_a, m_a, d_a, i_a, t_a, h_a, e_a, u_a, P_a, Q_a, rfl, la, lb, ba, bb, P2, Q2, L2, W2⟩
  have K12 := K11.wrote2 W2 (by omega)
  have K22 := K21.wrote2 W2 (by omega)
  have f2 : Below w.heap.size w v2 := W2.below f1 f1.size (fun a h_a => by obtain rfl := Option.some.inj h_a; exact hwp)
  have z1 := W2.size
  clear K11 K21 L1 W2 f1
  go_wp2_with fail
  refine calls_named ?_
  rintro v3 hv3
  obtain ⟨g5, hg5⟩ : ∃ q, q = v2.heap.size := ⟨_, rfl⟩
  have b3 : Below v2.heap.size v2 v3 := by rw [hv3]; exact (Below.refl _ _).alloc (Nat.le_refl _) _
  have z3 : v2.heap.size < v3.heap.size := by rw [hv3]; simp
  have K53 : Blk v3 g5 29 #[.int .i64 i_a, .int .i64 t_a, .slice A_a n_a c_a, .slice B_a m_a d_a, .int .i64 h_a, .int .i64 e_a, .int .i64 u_a] := by rw [hv3]; exact Blk.new_at _ _ _ _ hg5
  try rw [← hg5]
  have q25 : v2.heap.size ≤ g5 := by omega
  have q5 : p < g5 := by omega
  clear hv3 hg5
  have K13 := K12.below b3
  have K23 := K22.below b3
  have P3 := (P2.below b3).mono (show p + 1 ≤ _ by omega)
  have Q3 := (Q2.below b3).mono (show p + 1 ≤ _ by omega)
  have lP := P2.lt
  have lQ := Q2.lt
  have L3 := L2.new b3
  have f3 := btr f2 (b3.mono f2.size)
  clear K12 K22 P2 Q2 L2 f2 b3
  have HP3 := Lib.hid P3
  have HQ3 := Lib.hid Q3
  clear P3 Q3
  refine (l17Copy_any A_a n_a c_a B_a m_a d_a i_a t_a h_a e_a u_a P_a Q_a v3 HP3.out.sl HQ3.out.sl la lb (by omega) (by omega) (row_nil HP3.out) (row_nil HQ3.out)).mono ?_
  rintro e v4 ⟨A_b, c_b, B_b, d_b, rfl, P4, Q4, hap, b4⟩
  have z4 := b4.size
  have K14 := K13.below b4
  have K24 := K23.below b4
  have K54 := K53.below b4
  have HP4 := Lib.hid (HP3.out.below b4)
  have HQ4 := Lib.hid (HQ3.out.below b4)
  have L4 := L3.new b4
  have f4 := btr f3 (b4.mono f3.size)
  have l5 := K54.lt
  have lP4 := P4.lt
  have lQ4 := Q4.lt
  clear K13 K23 K53 HP3 HQ3 L3 f3 b4 hap
  go_wp2_with fail
  refine calls_named ?_
  rintro v5 hv5
  obtain ⟨g6, hg6⟩ : ∃ q, q = v4.heap.size := ⟨_, rfl⟩
  have H5 : Hid (TX w v5 p g1 g2 g5 g6 A_a n_a c_a B_a m_a d_a i_a t_a h_a e_a u_a P_a Q_a A_b n_a c_b B_b m_a d_b i_a t_a h_a e_a u_a P_a Q_a) := by
    have b5 : Below v4.heap.size v4 v5 := by rw [hv5]; exact (Below.refl _ _).alloc (Nat.le_refl _) _
    exact Lib.hid ⟨K14.below b5, K24.below b5, K54.below b5, by rw [hv5]; exact Blk.new_at _ _ _ _ hg6, HP4.out.below b5, HQ4.out.below b5, (P4.below b5).mono (by omega), (Q4.below b5).mono (by omega), L4.new b5, btr f4 (b5.mono f4.size), fun a h_a => by have := lP a h_a; omega, fun a h_a => by have := lQ a h_a; omega, fun a h_a => by have := lP4 a h_a; omega, fun a h_a => by have := lQ4 a h_a; omega, la, lb, la, lb, ba, bb, ba, bb⟩
  have G := Lib.hid (show TG w p g1 g2 g5 g6 from ⟨by omega, by omega, by omega, by omega, by omega, by omega, by omega, by omega⟩)
  have h56 : ¬ g5 = g6 := by omega
  have h65 : ¬ g6 = g5 := by omega
  have hwz : w.heap.size ≤ p := hwp
  have hpz : p + 1 ≤ v5.heap.size := by have := H5.out.D.lt; omega
  have n12 : ¬ g1 = g2 := by omega
  have n21 : ¬ g2 = g1 := by omega
  have n15 : ¬ g1 = g5 := by omega
  have n16 : ¬ g1 = g6 := by omega
  have n25 : ¬ g2 = g5 := by omega
  have n26 : ¬ g2 = g6 := by omega
  have n51 : ¬ g5 = g1 := by omega
  have n52 : ¬ g5 = g2 := by omega
  have n61 : ¬ g6 = g1 := by omega
  have n62 : ¬ g6 = g2 := by omega
  try rw [← hg6]
  clear hv5 K14 K24 K54 HP4 HQ4 P4 Q4 L4 f4 la lb ba bb hg6 lP lQ lP4 lQ4
  refine (l1Below_any p 5 v5 H5.out.D (by decide) (by decide)).mono ?_
  rintro e v6 ⟨y, rfl, ⟨y0, y1⟩, D, W⟩
  have H6 := Lib.hid (H5.out.dice G.out W D)
  have z5 := W.size
  have hpz6 : p + 1 ≤ v6.heap.size := by omega
  clear D W H5
  go_upto_block 0 with fail
  go_cut [6] (fun nv wx => nv = .pointer (some ⟨g6, 0, none⟩) ∧ ∃ (A_b : Option Addr) (n_b c_b : Nat) (B_b : Option Addr) (m_b d_b : Nat) (i_b t_b h_b e_b u_b : Int) (P_b : List Pr) (Q_b : List Jb), Hid (TX w wx p g1 g2 g5 g6 A_a n_a c_a B_a m_a d_a i_a t_a h_a e_a u_a P_a Q_a A_b n_b c_b B_b m_b d_b i_b t_b h_b e_b u_b P_b Q_b))
  case first =>
    rcases (by omega : y = 0 ∨ y = 1 ∨ y = 2 ∨ y = 3 ∨ y = 4) with rfl | rfl | rfl | rfl | rfl
    · go_wp2_with fail
      refine (l17DrawAny_any p v6 H6.out.D).mono ?_
      rintro e v7 ⟨A_n, n_n, c_n, B_n, m_n, d_n, i_n, t_n, h_n, e_n, u_n, P_n, Q_n, rfl, ln, lm, bn, bm, Px, Qx, D, W⟩
      have H7 := Lib.hid (H6.out.dice G.out W D)
      have l6 := H6.out.N6.lt
      have HPX := Lib.hid Px
      have HQX := Lib.hid Qx
      clear D W H6 Px Qx
      have n_l := H7.out.N6.lt
      have n_0 : v7.cell? ⟨g6, 0, none⟩ = some (.int .i64 i_a) := H7.out.N6.cell 0
      have nf_0 : v7.frozen? ⟨g6, 0, none⟩ = false := H7.out.N6.frozen 0
      have n_1 : v7.cell? ⟨g6, 1, none⟩ = some (.int .i64 t_a) := H7.out.N6.cell 1
      have nf_1 : v7.frozen? ⟨g6, 1, none⟩ = false := H7.out.N6.frozen 1
      have n_2 : v7.cell? ⟨g6, 2, none⟩ = some (.slice A_b n_a c_b) := H7.out.N6.cell 2
      have nf_2 : v7.frozen? ⟨g6, 2, none⟩ = false := H7.out.N6.frozen 2
      have n_3 : v7.cell? ⟨g6, 3, none⟩ = some (.slice B_b m_a d_b) := H7.out.N6.cell 3
      have nf_3 : v7.frozen? ⟨g6, 3, none⟩ = false := H7.out.N6.frozen 3
      have n_4 : v7.cell? ⟨g6, 4, none⟩ = some (.int .i64 h_a) := H7.out.N6.cell 4
      have nf_4 : v7.frozen? ⟨g6, 4, none⟩ = false := H7.out.N6.frozen 4
      have n_5 : v7.cell? ⟨g6, 5, none⟩ = some (.int .i64 e_a) := H7.out.N6.cell 5
      have nf_5 : v7.frozen? ⟨g6, 5, none⟩ = false := H7.out.N6.frozen 5
      have n_6 : v7.cell? ⟨g6, 6, none⟩ = some (.int .i64 u_a) := H7.out.N6.cell 6
      have nf_6 : v7.frozen? ⟨g6, 6, none⟩ = false := H7.out.N6.frozen 6
      go_wp2_with fail
      go_meet
      exact ⟨rfl, _, _, _, _, _, _, _, _, _, _, _, _, _, Lib.hid (H7.out.put7 G.out (HPX.out.mono hpz6) (fun a h_a => by have := HPX.out.ge a h_a; omega) ln bn (HQX.out.mono hpz6) (fun a h_a => by have := HQX.out.ge a h_a; omega) lm bm)⟩
    · go_wp2_with fail
      refine (l14Draw_any p v6 H6.out.D).mono ?_
      rintro e v7 ⟨Ax, nx, cx, zx, rfl, hnx, Rx, D, W⟩
      have H7 := Lib.hid (H6.out.dice G.out W D)
      have l6 := H6.out.N6.lt
      clear D W H6
      obtain ⟨lx, hlx, rfl⟩ := PR_of nx zx Rx.len
      have HRX := Lib.hid Rx
      clear Rx
      have n_l := H7.out.N6.lt
      have n_2 : v7.cell? ⟨g6, 2, none⟩ = some (.slice A_b n_a c_b) := H7.out.N6.cell 2
      have nf_2 : v7.frozen? ⟨g6, 2, none⟩ = false := H7.out.N6.frozen 2
      go_wp2_with fail
      go_meet
      exact ⟨rfl, _, _, _, _, _, _, _, _, _, _, _, _, _, Lib.hid (H7.out.put2 G.out (HRX.out.mono hpz6) (fun a h_a => by have := HRX.out.ge a h_a; omega) hlx (by omega))⟩
    · have hS0 : v6.drew.cell? ⟨g5, 0, none⟩ = some (.int .i64 i_a) ∧ v6.drew.cell? ⟨g5, 1, none⟩ = some (.int .i64 t_a) ∧ v6.drew.cell? ⟨g5, 2, none⟩ = some (.slice A_a n_a c_a) ∧ v6.drew.cell? ⟨g5, 3, none⟩ = some (.slice B_a m_a d_a) ∧ v6.drew.cell? ⟨g5, 4, none⟩ = some (.int .i64 h_a) ∧ v6.drew.cell? ⟨g5, 5, none⟩ = some (.int .i64 e_a) ∧ v6.drew.cell? ⟨g5, 6, none⟩ = some (.int .i64 u_a) := ⟨H6.out.N5.cell 0, H6.out.N5.cell 1, H6.out.N5.cell 2, H6.out.N5.cell 3, H6.out.N5.cell 4, H6.out.N5.cell 5, H6.out.N5.cell 6⟩
      have hmm : m_a ≤ maxLen := by have := H6.out.bb; unfold maxLen; omega
      have hnm : n_a ≤ maxLen := by have := H6.out.ba; unfold maxLen; omega
      have l5 := H6.out.N5.lt
      go_upto_region 10 with fail
      go_region_held_law (fun w' => w'.cell? ⟨g5, 0, none⟩ = some (.int .i64 i_a) ∧ w'.cell? ⟨g5, 1, none⟩ = some (.int .i64 t_a) ∧ w'.cell? ⟨g5, 2, none⟩ = some (.slice A_a n_a c_a) ∧ w'.cell? ⟨g5, 3, none⟩ = some (.slice B_a m_a d_a) ∧ w'.cell? ⟨g5, 4, none⟩ = some (.int .i64 h_a) ∧ w'.cell? ⟨g5, 5, none⟩ = some (.int .i64 e_a) ∧ w'.cell? ⟨g5, 6, none⟩ = some (.int .i64 u_a)) (first | with_reducible assumption | with_reducible exact n5_far hS8 h56) (first | (go_at_call 18; have hcc := l17DrawEntry_any p A_a n_a c_a B_a m_a d_a i_a t_a h_a e_a u_a Q_a v6.drew (LC.drew H6.out.D) (Sl.drew H6.out.Qa.sl) H6.out.lb hmm (fun a h_a => by have := H6.out.Qa.ge a h_a; omega); (with_reducible refine hcc.mono ?_); clear hcc; rintro e v7 ⟨ex, et, ec, es, ek, ea, eb, eg, eh, rfl, D, W0⟩; have W : Wrote v6 v7 (some ⟨p, 0, none⟩) := (by with_reducible exact wrote_u W0); have H7 := Lib.hid (H6.out.dice G.out W D); have z7 := W.size; have hS7 : v7.cell? ⟨g5, 0, none⟩ = some (.int .i64 i_a) ∧ v7.cell? ⟨g5, 1, none⟩ = some (.int .i64 t_a) ∧ v7.cell? ⟨g5, 2, none⟩ = some (.slice A_a n_a c_a) ∧ v7.cell? ⟨g5, 3, none⟩ = some (.slice B_a m_a d_a) ∧ v7.cell? ⟨g5, 4, none⟩ = some (.int .i64 h_a) ∧ v7.cell? ⟨g5, 5, none⟩ = some (.int .i64 e_a) ∧ v7.cell? ⟨g5, 6, none⟩ = some (.int .i64 u_a) := ⟨H7.out.N5.cell 0, H7.out.N5.cell 1, H7.out.N5.cell 2, H7.out.N5.cell 3, H7.out.N5.cell 4, H7.out.N5.cell 5, H7.out.N5.cell 6⟩; clear D W W0) | (go_at_call 17; obtain ⟨⟨⟨ri, rt, ⟨rp, rq, rh, re, ru⟩⟩, rb⟩, hres⟩ : ∃ R, appR i_a t_a h_a e_a u_a P_a Q_a ex et ec es ek ea eb eg eh = R := ⟨_, rfl⟩; have hbl := appR_len hres (by rw [H7.out.la]; exact H7.out.ba) (by rw [H7.out.lb]; exact H7.out.bb); have hcc := specApplied_g A_a n_a c_a B_a m_a d_a i_a t_a h_a e_a u_a P_a Q_a ex et ec es ek ea eb eg eh v7 H7.out.Pa.sl H7.out.Qa.sl H7.out.la H7.out.lb hnm hmm (row_nil H7.out.Pa) (row_nil H7.out.Qa) ri rt rh re ru rp rq rp.length rq.length rb ⟨hres, rfl, rfl⟩; (with_reducible refine hcc.mono ?_); clear hcc hres; rintro e v8 ⟨A3, c3, B3, d3, rfl, R6, R7, hap, b8⟩; have H8 := Lib.hid (H7.out.below b8); have l7 := H7.out.N6.lt; have HPX := Lib.hid R6; have HQX := Lib.hid R7; have hS8 : v8.cell? ⟨g5, 0, none⟩ = some (.int .i64 i_a) ∧ v8.cell? ⟨g5, 1, none⟩ = some (.int .i64 t_a) ∧ v8.cell? ⟨g5, 2, none⟩ = some (.slice A_a n_a c_a) ∧ v8.cell? ⟨g5, 3, none⟩ = some (.slice B_a m_a d_a) ∧ v8.cell? ⟨g5, 4, none⟩ = some (.int .i64 h_a) ∧ v8.cell? ⟨g5, 5, none⟩ = some (.int .i64 e_a) ∧ v8.cell? ⟨g5, 6, none⟩ = some (.int .i64 u_a) := ⟨H8.out.N5.cell 0, H8.out.N5.cell 1, H8.out.N5.cell 2, H8.out.N5.cell 3, H8.out.N5.cell 4, H8.out.N5.cell 5, H8.out.N5.cell 6⟩; clear b8 R6 R7 hap; have n_l := H8.out.N6.lt; have n_0 : v8.cell? ⟨g6, 0, none⟩ = some (.int .i64 i_a) := H8.out.N6.cell 0; have nf_0 : v8.frozen? ⟨g6, 0, none⟩ = false := H8.out.N6.frozen 0; have n_1 : v8.cell? ⟨g6, 1, none⟩ = some (.int .i64 t_a) := H8.out.N6.cell 1; have nf_1 : v8.frozen? ⟨g6, 1, none⟩ = false := H8.out.N6.frozen 1; have n_2 : v8.cell? ⟨g6, 2, none⟩ = some (.slice A_b n_a c_b) := H8.out.N6.cell 2; have nf_2 : v8.frozen? ⟨g6, 2, none⟩ = false := H8.out.N6.frozen 2; have n_3 : v8.cell? ⟨g6, 3, none⟩ = some (.slice B_b m_a d_b) := H8.out.N6.cell 3; have nf_3 : v8.frozen? ⟨g6, 3, none⟩ = false := H8.out.N6.frozen 3; have n_4 : v8.cell? ⟨g6, 4, none⟩ = some (.int .i64 h_a) := H8.out.N6.cell 4; have nf_4 : v8.frozen? ⟨g6, 4, none⟩ = false := H8.out.N6.frozen 4; have n_5 : v8.cell? ⟨g6, 5, none⟩ = some (.int .i64 e_a) := H8.out.N6.cell 5; have nf_5 : v8.frozen? ⟨g6, 5, none⟩ = false := H8.out.N6.frozen 5; have n_6 : v8.cell? ⟨g6, 6, none⟩ = some (.int .i64 u_a) := H8.out.N6.cell 6; have nf_6 : v8.frozen? ⟨g6, 6, none⟩ = false := H8.out.N6.frozen 6))
      all_goals go_wp2_with fail
      all_goals go_meet
      all_goals exact ⟨rfl, _, _, _, _, _, _, _, _, _, _, _, _, _, Lib.hid (H8.out.put7 G.out (HPX.out.mono (show p + 1 ≤ _ by omega)) (fun a h_a => by have := HPX.out.ge a h_a; omega) rfl hbl.1 (HQX.out.mono (show p + 1 ≤ _ by omega)) (fun a h_a => by have := HQX.out.ge a h_a; omega) rfl hbl.2)⟩
    · go_wp2_with fail
      go_meet
      exact ⟨rfl, _, _, _, _, _, _, _, _, _, _, _, _, _, H6⟩
    · go_wp2_with fail
      go_meet
      exact ⟨rfl, _, _, _, _, _, _, _, _, _, _, _, _, _, H6⟩

  case rest =>
    clear H6
    obtain ⟨rfl, A_b, n_b, c_b, B_b, m_b, d_b, i_b, t_b, h_b, e_b, u_b, P_b, Q_b, H7⟩ := hcut
    rename World => v7
    have a_l := H7.out.N5.lt
    obtain ⟨a_0, a_1, a_2, a_3, a_4, a_5, a_6⟩ := bc7 H7.out.N5
    have b_l := H7.out.N6.lt
    obtain ⟨b_0, b_1, b_2, b_3, b_4, b_5, b_6⟩ := bc7 H7.out.N6
    have r_l := H7.out.R1.lt
    have r_0 : v7.cell? ⟨g1, 0, none⟩ = some (.int .i64 0) := H7.out.R1.cell 0
    have rf_0 : v7.frozen? ⟨g1, 0, none⟩ = false := H7.out.R1.frozen 0
    have r_1 : v7.cell? ⟨g1, 1, none⟩ = some (.int .i64 0) := H7.out.R1.cell 1
    have rf_1 : v7.frozen? ⟨g1, 1, none⟩ = false := H7.out.R1.frozen 1
    have r_2 : v7.cell? ⟨g1, 2, none⟩ = some (.slice none 0 0) := H7.out.R1.cell 2
    have rf_2 : v7.frozen? ⟨g1, 2, none⟩ = false := H7.out.R1.frozen 2
    have r_3 : v7.cell? ⟨g1, 3, none⟩ = some (.slice none 0 0) := H7.out.R1.cell 3
    have rf_3 : v7.frozen? ⟨g1, 3, none⟩ = false := H7.out.R1.frozen 3
    have r_4 : v7.cell? ⟨g1, 4, none⟩ = some (.int .i64 0) := H7.out.R1.cell 4
    have rf_4 : v7.frozen? ⟨g1, 4, none⟩ = false := H7.out.R1.frozen 4
    have r_5 : v7.cell? ⟨g1, 5, none⟩ = some (.int .i64 0) := H7.out.R1.cell 5
    have rf_5 : v7.frozen? ⟨g1, 5, none⟩ = false := H7.out.R1.frozen 5
    have r_6 : v7.cell? ⟨g1, 6, none⟩ = some (.int .i64 0) := H7.out.R1.cell 6
    have rf_6 : v7.frozen? ⟨g1, 6, none⟩ = false := H7.out.R1.frozen 6
    have s_l := H7.out.R2.lt
    have s_0 : v7.cell? ⟨g2, 0, none⟩ = some (.int .i64 0) := H7.out.R2.cell 0
    have sf_0 : v7.frozen? ⟨g2, 0, none⟩ = false := H7.out.R2.frozen 0
    have s_1 : v7.cell? ⟨g2, 1, none⟩ = some (.int .i64 0) := H7.out.R2.cell 1
    have sf_1 : v7.frozen? ⟨g2, 1, none⟩ = false := H7.out.R2.frozen 1
    have s_2 : v7.cell? ⟨g2, 2, none⟩ = some (.slice none 0 0) := H7.out.R2.cell 2
    have sf_2 : v7.frozen? ⟨g2, 2, none⟩ = false := H7.out.R2.frozen 2
    have s_3 : v7.cell? ⟨g2, 3, none⟩ = some (.slice none 0 0) := H7.out.R2.cell 3
    have sf_3 : v7.frozen? ⟨g2, 3, none⟩ = false := H7.out.R2.frozen 3
    have s_4 : v7.cell? ⟨g2, 4, none⟩ = some (.int .i64 0) := H7.out.R2.cell 4
    have sf_4 : v7.frozen? ⟨g2, 4, none⟩ = false := H7.out.R2.frozen 4
    have s_5 : v7.cell? ⟨g2, 5, none⟩ = some (.int .i64 0) := H7.out.R2.cell 5
    have sf_5 : v7.frozen? ⟨g2, 5, none⟩ = false := H7.out.R2.frozen 5
    have s_6 : v7.cell? ⟨g2, 6, none⟩ = some (.int .i64 0) := H7.out.R2.cell 6
    have sf_6 : v7.frozen? ⟨g2, 6, none⟩ = false := H7.out.R2.frozen 6
    go_wp2_with fail
    go_region
    all_goals go_wp2_with fail
    all_goals refine bodyPost_ret (v := .tuple #[.agg #[.int .i64 i_a, .int .i64 t_a, .slice A_a n_a c_a, .slice B_a m_a d_a, .int .i64 h_a, .int .i64 e_a, .int .i64 u_a], .agg #[.int .i64 i_b, .int .i64 t_b, .slice A_b n_b c_b, .slice B_b m_b d_b, .int .i64 h_b, .int .i64 e_b, .int .i64 u_b]]) (by simp [results, Try.results5, go_sem, *]) rfl ?_
    all_goals with_reducible exact H7.out.ret G.out
end Go.Proofs.Ytokklkmibjpjnaa
namespace Go.Proofs.Ytokklkmibjpjnaa
set_option linter.unusedSimpArgs false
set_option linter.unusedVariables false
attribute [local go_sem] n_lt2 n_lt3 n_lt4 n_le2 n_le3
open Go.RowKit

def samePairsB (a b : List Pr) : Bool := pairsB a && (pairsB b && eqL (PR a) (PR b))
attribute [local go_sem] Ext.cell Ext.frozen

set_option maxHeartbeats 1000000 in
theorem samePairs_any (A B : Option Addr) (n m cap cap' : Nat) (l r : List Pr) (w : World) (hS : Sl w 2 A n (PR l)) (hT : Sl w 2 B m (PR r)) (hl : l.length = n) (hr : r.length = m) (hn : n ≤ maxLen) (hm : m ≤ maxLen) :
    Calls Try.prog 34 #[.slice A n cap, .slice B m cap'] w fun e' w' => e' = .returned (.bool (samePairsB l r)) ∧ Below w.heap.size w w' := by
  have c1 := pairsOk_any A n cap l w hS hl hn
  by_cases hpa : pairsB l = true
  · rw [hpa] at c1
    by_cases hpb : pairsB r = true
    · have hv : samePairsB l r = eqL (PR l) (PR r) := by simp [samePairsB, hpa, hpb]
      rw [hv]
      generalize hq : eqL (PR l) (PR r) = q
      go_enter Try.func34, Try.ntmps34
      go_wp2_with fail
      refine c1.mono ?_
      rintro e w1 ⟨rfl, b1⟩
      have c2 := pairsOk_any B m cap' r w1 (hT.below b1) hr hm
      rw [hpb] at c2
      go_wp2_with fail
      refine c2.mono ?_
      rintro e w2 ⟨rfl, b2⟩
      have f2 := bthen b1 b2
      have c3 := equalPairS_any A B n m cap cap' (PR l) (PR r) w2 (hS.below f2) (hT.below f2) hn hm
      rw [hq] at c3
      clear hq hv c1 c2
      go_wp2_with fail
      refine c3.mono ?_
      rintro e w3 ⟨rfl, b3⟩
      go_wp2
      all_goals go_ret
      all_goals exact ⟨rfl, bthen f2 b3⟩
    · have hpb' : pairsB r = false := by simpa using hpb
      have hv : samePairsB l r = false := by simp [samePairsB, hpb']
      rw [hv]
      go_enter Try.func34, Try.ntmps34
      go_wp2_with fail
      refine c1.mono ?_
      rintro e w1 ⟨rfl, b1⟩
      have c2 := pairsOk_any B m cap' r w1 (hT.below b1) hr hm
      rw [hpb'] at c2
      go_wp2_with fail
      refine c2.mono ?_
      rintro e w2 ⟨rfl, b2⟩
      go_wp2
      go_ret
      exact ⟨rfl, bthen b1 b2⟩
  · have hpa' : pairsB l = false := by simpa using hpa
    have hv : samePairsB l r = false := by simp [samePairsB, hpa']
    rw [hv]
    rw [hpa'] at c1
    go_enter Try.func34, Try.ntmps34
    go_wp2_with fail
    refine c1.mono ?_
    rintro e w1 ⟨rfl, b1⟩
    go_wp2
    go_ret
    exact ⟨rfl, b1⟩

set_option maxHeartbeats 2000000 in
theorem specSamePairs_any (A B : Option Addr) (n m cap cap' : Nat) (l r : List Pr) (w : World) (hS : Sl w 2 A n (PR l)) (hT : Sl w 2 B m (PR r)) (hl : l.length = n) (hr : r.length = m) (hn : n ≤ maxLen) (hm : m ≤ maxLen) :
    Calls Try.prog 32 #[.slice A n cap, .slice B m cap'] w fun e' w' => e' = .returned (.bool (samePairsB l r)) ∧ Below w.heap.size w w' := by
  have c1 := specPairsOk_any A n cap l w hS hl hn
  by_cases hpa : pairsB l = true
  · rw [hpa] at c1
    by_cases hpb : pairsB r = true
    · have hv : samePairsB l r = eqL (PR l) (PR r) := by simp [samePairsB, hpa, hpb]
      rw [hv]
      by_cases hnm : n = m
      · subst hnm
        go_enter Try.func32, Try.ntmps32
        go_wp2_with fail
        refine c1.mono ?_
        rintro e w1 ⟨rfl, b1⟩
        have c2 := specPairsOk_any B n cap' r w1 (hT.below b1) hr hm
        rw [hpb] at c2
        go_wp2_with fail
        refine c2.mono ?_
        rintro e w2 ⟨rfl, b2⟩
        have F0 := bthen b1 b2
        have HS := Lib.hid (hS.below F0)
        have HT := Lib.hid (hT.below F0)
        clear hS hT c1 c2 hpa hpb hv
        clear b1 b2
        have hfin : ∀ w', Below w2.heap.size w2 w' → Below w.heap.size w w' := fun w' h => bthen F0 h
        unfold maxLen at hn hm
        go_wp2
        go_loopw [5] (fun i wr => ∃ (k : Nat), k ≤ n ∧ i = .int .i64 k ∧ Below w2.heap.size w2 wr ∧ Hid (∀ j, j < k * 2 → (PR l).getD j 0 = (PR r).getD j 0)) (fun i _ => n - (intOf i).toNat)
        case atStart => exact ⟨0, Nat.zero_le _, rfl, Below.refl _ _, fun j hj => absurd hj (by omega)⟩
        case round =>
          obtain ⟨k, hk, rfl, hbl, hall⟩ := hrel
          by_cases hlt : k < n
          · obtain ⟨b, off, rfl, hb, hcell⟩ := HS.out.at_ (by omega)
            obtain ⟨b', off', rfl, hb', hcell'⟩ := HT.out.at_ (by omega)
            have h0 := hcell (k * 2) (by omega)
            have h1 := hcell (k * 2 + 1) (by omega)
            have p0 := hcell' (k * 2) (by omega)
            have p1 := hcell' (k * 2 + 1) (by omega)
            rw [← hbl.cell (by exact hb)] at h0 h1
            rw [← hbl.cell (by exact hb')] at p0 p1
            simp only [← Nat.add_assoc] at h0 h1 p0 p1
            clear hcell hcell'
            generalize hx0 : (PR l).getD (k * 2) 0 = x0 at h0
            generalize hx1 : (PR l).getD (k * 2 + 1) 0 = x1 at h1
            generalize hy0 : (PR r).getD (k * 2) 0 = y0 at p0
            generalize hy1 : (PR r).getD (k * 2 + 1) 0 = y1 at p1
            have HX := Lib.hid (And.intro (And.intro hx0 hx1) (And.intro hy0 hy1))
            clear hx0 hy0 hx1 hy1
            have hbr : b < wr.heap.size := Nat.lt_of_lt_of_le hb hbl.size
            have hbr' : b' < wr.heap.size := Nat.lt_of_lt_of_le hb' hbl.size
            have hk2 : (k : Int) < (n : Int) := by omega
            have hcs : (¬ x0 = y0) ∨ (x0 = y0 ∧ ¬ x1 = y1) ∨ (x0 = y0 ∧ x1 = y1) := by omega
            rcases hcs with ⟨d0⟩ | ⟨d0, d1⟩ | ⟨d0, d1⟩
            · have hq' : (x0 == y0) = false := by simpa using d0
              go_wp2
              ((refine wp_region_ext (by kernel_rfl) (by kernel_rfl) ?_); (repeat (any_goals (first | go_big_quiet_step (fail) | (refine wpQuiet_step (fun K hK => ?_); go_simp; split <;> (refine hK _ ?_; clear hK K)) | quiet_step (fail)))); (all_goals (refine wpQuiet_nil ?_; rintro _ ⟨z, rfl⟩; have hb' := z.h; generalize z.w = w1 at hb' ⊢; clear z; (first | (have hb2 := bstep hb' hb hb.size; clear hb' hcb hfb hz1 hz2 hz3 hz4 hb; have hb := hb2; clear hb2) | (have hb := hb'; clear hb')); obtain ⟨hcb, hfb, hz1, hz2, hz3, hz4⟩ := bcell hb; (try simp only [World.size_alloc, World.size_setCell, World.size_drew, Nat.lt_add_one_iff, Nat.add_assoc, Nat.reduceAdd] at hz1 hz2 hz3 hz4))))
              go_wp2
              go_ret
              refine ⟨ret_bool (eqL_ne ?_).symm, hfin _ (bstep hb hbl hbl.size)⟩
              intro hzz
              have hxy := HX.out
              rw [hzz] at hxy
              exact d0 (hxy.1.1.symm.trans hxy.2.1)
            · have hq' : (x1 == y1) = false := by simpa using d1
              obtain rfl := d0
              go_wp2
              ((refine wp_region_ext (by kernel_rfl) (by kernel_rfl) ?_); (repeat (any_goals (first | go_big_quiet_step (fail) | (refine wpQuiet_step (fun K hK => ?_); go_simp; split <;> (refine hK _ ?_; clear hK K)) | quiet_step (fail)))); (all_goals (refine wpQuiet_nil ?_; rintro _ ⟨z, rfl⟩; have hb' := z.h; generalize z.w = w1 at hb' ⊢; clear z; (first | (have hb2 := bstep hb' hb hb.size; clear hb' hcb hfb hz1 hz2 hz3 hz4 hb; have hb := hb2; clear hb2) | (have hb := hb'; clear hb')); obtain ⟨hcb, hfb, hz1, hz2, hz3, hz4⟩ := bcell hb; (try simp only [World.size_alloc, World.size_setCell, World.size_drew, Nat.lt_add_one_iff, Nat.add_assoc, Nat.reduceAdd] at hz1 hz2 hz3 hz4))))
              go_wp2
              go_ret
              refine ⟨ret_bool (eqL_ne ?_).symm, hfin _ (bstep hb hbl hbl.size)⟩
              intro hzz
              have hxy := HX.out
              rw [hzz] at hxy
              exact d1 (hxy.1.2.symm.trans hxy.2.2)
            · obtain rfl := d0
              obtain rfl := d1
              go_wp2
              ((refine wp_region_ext (by kernel_rfl) (by kernel_rfl) ?_); (repeat (any_goals (first | go_big_quiet_step (fail) | (refine wpQuiet_step (fun K hK => ?_); go_simp; split <;> (refine hK _ ?_; clear hK K)) | quiet_step (fail)))); (all_goals (refine wpQuiet_nil ?_; rintro _ ⟨z, rfl⟩; have hb' := z.h; generalize z.w = w1 at hb' ⊢; clear z; (first | (have hb2 := bstep hb' hb hb.size; clear hb' hcb hfb hz1 hz2 hz3 hz4 hb; have hb := hb2; clear hb2) | (have hb := hb'; clear hb')); obtain ⟨hcb, hfb, hz1, hz2, hz3, hz4⟩ := bcell hb; (try simp only [World.size_alloc, World.size_setCell, World.size_drew, Nat.lt_add_one_iff, Nat.add_assoc, Nat.reduceAdd] at hz1 hz2 hz3 hz4))))
              go_wp2
              refine ⟨⟨k + 1, by omega, by go_num, bstep hb hbl hbl.size, ?_⟩, by simp [intOf]; omega⟩
              intro j hj
              have hxy := HX.out
              rcases (by omega : j < k * 2 ∨ j = k * 2 ∨ j = k * 2 + 1) with h | h | h
              · exact hall.out j h
              · rw [h, hxy.1.1, hxy.2.1]
              · rw [h, hxy.1.2, hxy.2.2]
          · have hkn : k = n := by omega
            subst hkn
            go_wp2
            go_ret
            have hzy : PR l = PR r := list_ext_getD (by rw [HS.out.len, HT.out.len]) (fun j hj => hall.out j (by rw [HS.out.len] at hj; omega))
            exact ⟨ret_bool (by rw [hzy]; exact (eqL_self _).symm), hfin _ hbl⟩
      · have hz : eqL (PR l) (PR r) = false := by
          refine eqL_ne ?_
          intro h
          have h1 := hS.len
          have h2 := hT.len
          rw [h] at h1
          omega
        have hne : ¬ (n : Int) = (m : Int) := by omega
        rw [hz]
        go_enter Try.func32, Try.ntmps32
        go_wp2_with fail
        refine c1.mono ?_
        rintro e w1 ⟨rfl, b1⟩
        have c2 := specPairsOk_any B m cap' r w1 (hT.below b1) hr hm
        rw [hpb] at c2
        go_wp2_with fail
        refine c2.mono ?_
        rintro e w2 ⟨rfl, b2⟩
        go_wp2
        go_ret
        exact ⟨rfl, bthen b1 b2⟩
    · have hpb' : pairsB r = false := by simpa using hpb
      have hv : samePairsB l r = false := by simp [samePairsB, hpb']
      rw [hv]
      go_enter Try.func32, Try.ntmps32
      go_wp2_with fail
      refine c1.mono ?_
      rintro e w1 ⟨rfl, b1⟩
      have c2 := specPairsOk_any B m cap' r w1 (hT.below b1) hr hm
      rw [hpb'] at c2
      go_wp2_with fail
      refine c2.mono ?_
      rintro e w2 ⟨rfl, b2⟩
      go_wp2
      go_ret
      exact ⟨rfl, bthen b1 b2⟩
  · have hpa' : pairsB l = false := by simpa using hpa
    have hv : samePairsB l r = false := by simp [samePairsB, hpa']
    rw [hv]
    rw [hpa'] at c1
    go_enter Try.func32, Try.ntmps32
    go_wp2_with fail
    refine c1.mono ?_
    rintro e w1 ⟨rfl, b1⟩
    go_wp2
    go_ret
    exact ⟨rfl, b1⟩
end Go.Proofs.Ytokklkmibjpjnaa
namespace Go.Proofs.Ytokklkmibjpjnaa
set_option linter.unusedSimpArgs false
set_option linter.unusedVariables false
attribute [local go_sem] n_lt2 n_lt3 n_lt4 n_le2 n_le3
open Go.RowKit

def sameJobsB (a b : List Jb) : Bool := jobsB a && (jobsB b && eqL (JB a) (JB b))
attribute [local go_sem] Ext.cell Ext.frozen

set_option maxHeartbeats 1000000 in
theorem sameJobs_any (A B : Option Addr) (n m cap cap' : Nat) (l r : List Jb) (w : World) (hS : Sl w 5 A n (JB l)) (hT : Sl w 5 B m (JB r)) (hl : l.length = n) (hr : r.length = m) (hn : n ≤ maxLen) (hm : m ≤ maxLen) :
    Calls Try.prog 35 #[.slice A n cap, .slice B m cap'] w fun e' w' => e' = .returned (.bool (sameJobsB l r)) ∧ Below w.heap.size w w' := by
  have c1 := jobsOk_any A n cap l w hS hl hn
  by_cases hpa : jobsB l = true
  · rw [hpa] at c1
    by_cases hpb : jobsB r = true
    · have hv : sameJobsB l r = eqL (JB l) (JB r) := by simp [sameJobsB, hpa, hpb]
      rw [hv]
      generalize hq : eqL (JB l) (JB r) = q
      go_enter Try.func35, Try.ntmps35
      go_wp2_with fail
      refine c1.mono ?_
      rintro e w1 ⟨rfl, b1⟩
      have c2 := jobsOk_any B m cap' r w1 (hT.below b1) hr hm
      rw [hpb] at c2
      go_wp2_with fail
      refine c2.mono ?_
      rintro e w2 ⟨rfl, b2⟩
      have f2 := bthen b1 b2
      have c3 := equalJobS_any A B n m cap cap' (JB l) (JB r) w2 (hS.below f2) (hT.below f2) hn hm
      rw [hq] at c3
      clear hq hv c1 c2
      go_wp2_with fail
      refine c3.mono ?_
      rintro e w3 ⟨rfl, b3⟩
      go_wp2
      all_goals go_ret
      all_goals exact ⟨rfl, bthen f2 b3⟩
    · have hpb' : jobsB r = false := by simpa using hpb
      have hv : sameJobsB l r = false := by simp [sameJobsB, hpb']
      rw [hv]
      go_enter Try.func35, Try.ntmps35
      go_wp2_with fail
      refine c1.mono ?_
      rintro e w1 ⟨rfl, b1⟩
      have c2 := jobsOk_any B m cap' r w1 (hT.below b1) hr hm
      rw [hpb'] at c2
      go_wp2_with fail
      refine c2.mono ?_
      rintro e w2 ⟨rfl, b2⟩
      go_wp2
      go_ret
      exact ⟨rfl, bthen b1 b2⟩
  · have hpa' : jobsB l = false := by simpa using hpa
    have hv : sameJobsB l r = false := by simp [sameJobsB, hpa']
    rw [hv]
    rw [hpa'] at c1
    go_enter Try.func35, Try.ntmps35
    go_wp2_with fail
    refine c1.mono ?_
    rintro e w1 ⟨rfl, b1⟩
    go_wp2
    go_ret
    exact ⟨rfl, b1⟩

set_option maxHeartbeats 2000000 in
theorem specSameJobs_any (A B : Option Addr) (n m cap cap' : Nat) (l r : List Jb) (w : World) (hS : Sl w 5 A n (JB l)) (hT : Sl w 5 B m (JB r)) (hl : l.length = n) (hr : r.length = m) (hn : n ≤ maxLen) (hm : m ≤ maxLen) :
    Calls Try.prog 33 #[.slice A n cap, .slice B m cap'] w fun e' w' => e' = .returned (.bool (sameJobsB l r)) ∧ Below w.heap.size w w' := by
  have c1 := specJobsOk_any A n cap l w hS hl hn
  by_cases hpa : jobsB l = true
  · rw [hpa] at c1
    by_cases hpb : jobsB r = true
    · have hv : sameJobsB l r = eqL (JB l) (JB r) := by simp [sameJobsB, hpa, hpb]
      rw [hv]
      by_cases hnm : n = m
      · subst hnm
        go_enter Try.func33, Try.ntmps33
        go_wp2_with fail
        refine c1.mono ?_
        rintro e w1 ⟨rfl, b1⟩
        have c2 := specJobsOk_any B n cap' r w1 (hT.below b1) hr hm
        rw [hpb] at c2
        go_wp2_with fail
        refine c2.mono ?_
        rintro e w2 ⟨rfl, b2⟩
        have F0 := bthen b1 b2
        have HS := Lib.hid (hS.below F0)
        have HT := Lib.hid (hT.below F0)
        clear hS hT c1 c2 hpa hpb hv
        clear b1 b2
        have hfin : ∀ w', Below w2.heap.size w2 w' → Below w.heap.size w w' := fun w' h => bthen F0 h
        unfold maxLen at hn hm
        go_wp2
        go_loopw [5] (fun i wr => ∃ (k : Nat), k ≤ n ∧ i = .int .i64 k ∧ Below w2.heap.size w2 wr ∧ Hid (∀ j, j < k * 5 → (JB l).getD j 0 = (JB r).getD j 0)) (fun i _ => n - (intOf i).toNat)
        case atStart => exact ⟨0, Nat.zero_le _, rfl, Below.refl _ _, fun j hj => absurd hj (by omega)⟩
        case round =>
          obtain ⟨k, hk, rfl, hbl, hall⟩ := hrel
          by_cases hlt : k < n
          · obtain ⟨b, off, rfl, hb, hcell⟩ := HS.out.at_ (by omega)
            obtain ⟨b', off', rfl, hb', hcell'⟩ := HT.out.at_ (by omega)
            have h0 := hcell (k * 5) (by omega)
            have h1 := hcell (k * 5 + 1) (by omega)
            have h2 := hcell (k * 5 + 2) (by omega)
            have h3 := hcell (k * 5 + 3) (by omega)
            have h4 := hcell (k * 5 + 4) (by omega)
            have p0 := hcell' (k * 5) (by omega)
            have p1 := hcell' (k * 5 + 1) (by omega)
            have p2 := hcell' (k * 5 + 2) (by omega)
            have p3 := hcell' (k * 5 + 3) (by omega)
            have p4 := hcell' (k * 5 + 4) (by omega)
            rw [← hbl.cell (by exact hb)] at h0 h1 h2 h3 h4
            rw [← hbl.cell (by exact hb')] at p0 p1 p2 p3 p4
            simp only [← Nat.add_assoc] at h0 h1 h2 h3 h4 p0 p1 p2 p3 p4
            clear hcell hcell'
            generalize hx0 : (JB l).getD (k * 5) 0 = x0 at h0
            generalize hx1 : (JB l).getD (k * 5 + 1) 0 = x1 at h1
            generalize hx2 : (JB l).getD (k * 5 + 2) 0 = x2 at h2
            generalize hx3 : (JB l).getD (k * 5 + 3) 0 = x3 at h3
            generalize hx4 : (JB l).getD (k * 5 + 4) 0 = x4 at h4
            generalize hy0 : (JB r).getD (k * 5) 0 = y0 at p0
            generalize hy1 : (JB r).getD (k * 5 + 1) 0 = y1 at p1
            generalize hy2 : (JB r).getD (k * 5 + 2) 0 = y2 at p2
            generalize hy3 : (JB r).getD (k * 5 + 3) 0 = y3 at p3
            generalize hy4 : (JB r).getD (k * 5 + 4) 0 = y4 at p4
            have HX := Lib.hid (And.intro (And.intro hx0 (And.intro hx1 (And.intro hx2 (And.intro hx3 hx4)))) (And.intro hy0 (And.intro hy1 (And.intro hy2 (And.intro hy3 hy4)))))
            clear hx0 hy0 hx1 hy1 hx2 hy2 hx3 hy3 hx4 hy4
            have hbr : b < wr.heap.size := Nat.lt_of_lt_of_le hb hbl.size
            have hbr' : b' < wr.heap.size := Nat.lt_of_lt_of_le hb' hbl.size
            have hk2 : (k : Int) < (n : Int) := by omega
            have hcs : (¬ x0 = y0) ∨ (x0 = y0 ∧ ¬ x1 = y1) ∨ (x0 = y0 ∧ x1 = y1 ∧ ¬ x2 = y2) ∨ (x0 = y0 ∧ x1 = y1 ∧ x2 = y2 ∧ ¬ x3 = y3) ∨ (x0 = y0 ∧ x1 = y1 ∧ x2 = y2 ∧ x3 = y3 ∧ ¬ x4 = y4) ∨ (x0 = y0 ∧ x1 = y1 ∧ x2 = y2 ∧ x3 = y3 ∧ x4 = y4) := by omega
            rcases hcs with ⟨d0⟩ | ⟨d0, d1⟩ | ⟨d0, d1, d2⟩ | ⟨d0, d1, d2, d3⟩ | ⟨d0, d1, d2, d3, d4⟩ | ⟨d0, d1, d2, d3, d4⟩
            · have hq' : (x0 == y0) = false := by simpa using d0
              go_wp2
              ((refine wp_region_ext (by kernel_rfl) (by kernel_rfl) ?_); (repeat (any_goals (first | go_big_quiet_step (fail) | (refine wpQuiet_step (fun K hK => ?_); go_simp; split <;> (refine hK _ ?_; clear hK K)) | quiet_step (fail)))); (all_goals (refine wpQuiet_nil ?_; rintro _ ⟨z, rfl⟩; have hb' := z.h; generalize z.w = w1 at hb' ⊢; clear z; (first | (have hb2 := bstep hb' hb hb.size; clear hb' hcb hfb hz1 hz2 hz3 hz4 hb; have hb := hb2; clear hb2) | (have hb := hb'; clear hb')); obtain ⟨hcb, hfb, hz1, hz2, hz3, hz4⟩ := bcell hb; (try simp only [World.size_alloc, World.size_setCell, World.size_drew, Nat.lt_add_one_iff, Nat.add_assoc, Nat.reduceAdd] at hz1 hz2 hz3 hz4))))
              go_wp2
              go_ret
              refine ⟨ret_bool (eqL_ne ?_).symm, hfin _ (bstep hb hbl hbl.size)⟩
              intro hzz
              have hxy := HX.out
              rw [hzz] at hxy
              exact d0 (hxy.1.1.symm.trans hxy.2.1)
            · have hq' : (x1 == y1) = false := by simpa using d1
              obtain rfl := d0
              go_wp2
              ((refine wp_region_ext (by kernel_rfl) (by kernel_rfl) ?_); (repeat (any_goals (first | go_big_quiet_step (fail) | (refine wpQuiet_step (fun K hK => ?_); go_simp; split <;> (refine hK _ ?_; clear hK K)) | quiet_step (fail)))); (all_goals (refine wpQuiet_nil ?_; rintro _ ⟨z, rfl⟩; have hb' := z.h; generalize z.w = w1 at hb' ⊢; clear z; (first | (have hb2 := bstep hb' hb hb.size; clear hb' hcb hfb hz1 hz2 hz3 hz4 hb; have hb := hb2; clear hb2) | (have hb := hb'; clear hb')); obtain ⟨hcb, hfb, hz1, hz2, hz3, hz4⟩ := bcell hb; (try simp only [World.size_alloc, World.size_setCell, World.size_drew, Nat.lt_add_one_iff, Nat.add_assoc, Nat.reduceAdd] at hz1 hz2 hz3 hz4))))
              go_wp2
              go_ret
              refine ⟨ret_bool (eqL_ne ?_).symm, hfin _ (bstep hb hbl hbl.size)⟩
              intro hzz
              have hxy := HX.out
              rw [hzz] at hxy
              exact d1 (hxy.1.2.1.symm.trans hxy.2.2.1)
            · have hq' : (x2 == y2) = false := by simpa using d2
              obtain rfl := d0
              obtain rfl := d1
              go_wp2
              ((refine wp_region_ext (by kernel_rfl) (by kernel_rfl) ?_); (repeat (any_goals (first | go_big_quiet_step (fail) | (refine wpQuiet_step (fun K hK => ?_); go_simp; split <;> (refine hK _ ?_; clear hK K)) | quiet_step (fail)))); (all_goals (refine wpQuiet_nil ?_; rintro _ ⟨z, rfl⟩; have hb' := z.h; generalize z.w = w1 at hb' ⊢; clear z; (first | (have hb2 := bstep hb' hb hb.size; clear hb' hcb hfb hz1 hz2 hz3 hz4 hb; have hb := hb2; clear hb2) | (have hb := hb'; clear hb')); obtain ⟨hcb, hfb, hz1, hz2, hz3, hz4⟩ := bcell hb; (try simp only [World.size_alloc, World.size_setCell, World.size_drew, Nat.lt_add_one_iff, Nat.add_assoc, Nat.reduceAdd] at hz1 hz2 hz3 hz4))))
              go_wp2
              go_ret
              refine ⟨ret_bool (eqL_ne ?_).symm, hfin _ (bstep hb hbl hbl.size)⟩
              intro hzz
              have hxy := HX.out
              rw [hzz] at hxy
              exact d2 (hxy.1.2.2.1.symm.trans hxy.2.2.2.1)
            · have hq' : (x3 == y3) = false := by simpa using d3
              obtain rfl := d0
              obtain rfl := d1
              obtain rfl := d2
              go_wp2
              ((refine wp_region_ext (by kernel_rfl) (by kernel_rfl) ?_); (repeat (any_goals (first | go_big_quiet_step (fail) | (refine wpQuiet_step (fun K hK => ?_); go_simp; split <;> (refine hK _ ?_; clear hK K)) | quiet_step (fail)))); (all_goals (refine wpQuiet_nil ?_; rintro _ ⟨z, rfl⟩; have hb' := z.h; generalize z.w = w1 at hb' ⊢; clear z; (first | (have hb2 := bstep hb' hb hb.size; clear hb' hcb hfb hz1 hz2 hz3 hz4 hb; have hb := hb2; clear hb2) | (have hb := hb'; clear hb')); obtain ⟨hcb, hfb, hz1, hz2, hz3, hz4⟩ := bcell hb; (try simp only [World.size_alloc, World.size_setCell, World.size_drew, Nat.lt_add_one_iff, Nat.add_assoc, Nat.reduceAdd] at hz1 hz2 hz3 hz4))))
              go_wp2
              go_ret
              refine ⟨ret_bool (eqL_ne ?_).symm, hfin _ (bstep hb hbl hbl.size)⟩
              intro hzz
              have hxy := HX.out
              rw [hzz] at hxy
              exact d3 (hxy.1.2.2.2.1.symm.trans hxy.2.2.2.2.1)
            · have hq' : (x4 == y4) = false := by simpa using d4
              obtain rfl := d0
              obtain rfl := d1
              obtain rfl := d2
              obtain rfl := d3
              go_wp2
              ((refine wp_region_ext (by kernel_rfl) (by kernel_rfl) ?_); (repeat (any_goals (first | go_big_quiet_step (fail) | (refine wpQuiet_step (fun K hK => ?_); go_simp; split <;> (refine hK _ ?_; clear hK K)) | quiet_step (fail)))); (all_goals (refine wpQuiet_nil ?_; rintro _ ⟨z, rfl⟩; have hb' := z.h; generalize z.w = w1 at hb' ⊢; clear z; (first | (have hb2 := bstep hb' hb hb.size; clear hb' hcb hfb hz1 hz2 hz3 hz4 hb; have hb := hb2; clear hb2) | (have hb := hb'; clear hb')); obtain ⟨hcb, hfb, hz1, hz2, hz3, hz4⟩ := bcell hb; (try simp only [World.size_alloc, World.size_setCell, World.size_drew, Nat.lt_add_one_iff, Nat.add_assoc, Nat.reduceAdd] at hz1 hz2 hz3 hz4))))
              go_wp2
              go_ret
              refine ⟨ret_bool (eqL_ne ?_).symm, hfin _ (bstep hb hbl hbl.size)⟩
              intro hzz
              have hxy := HX.out
              rw [hzz] at hxy
              exact d4 (hxy.1.2.2.2.2.symm.trans hxy.2.2.2.2.2)
            · obtain rfl := d0
              obtain rfl := d1
              obtain rfl := d2
              obtain rfl := d3
              obtain rfl := d4
              go_wp2
              ((refine wp_region_ext (by kernel_rfl) (by kernel_rfl) ?_); (repeat (any_goals (first | go_big_quiet_step (fail) | (refine wpQuiet_step (fun K hK => ?_); go_simp; split <;> (refine hK _ ?_; clear hK K)) | quiet_step (fail)))); (all_goals (refine wpQuiet_nil ?_; rintro _ ⟨z, rfl⟩; have hb' := z.h; generalize z.w = w1 at hb' ⊢; clear z; (first | (have hb2 := bstep hb' hb hb.size; clear hb' hcb hfb hz1 hz2 hz3 hz4 hb; have hb := hb2; clear hb2) | (have hb := hb'; clear hb')); obtain ⟨hcb, hfb, hz1, hz2, hz3, hz4⟩ := bcell hb; (try simp only [World.size_alloc, World.size_setCell, World.size_drew, Nat.lt_add_one_iff, Nat.add_assoc, Nat.reduceAdd] at hz1 hz2 hz3 hz4))))
              go_wp2
              refine ⟨⟨k + 1, by omega, by go_num, bstep hb hbl hbl.size, ?_⟩, by simp [intOf]; omega⟩
              intro j hj
              have hxy := HX.out
              rcases (by omega : j < k * 5 ∨ j = k * 5 ∨ j = k * 5 + 1 ∨ j = k * 5 + 2 ∨ j = k * 5 + 3 ∨ j = k * 5 + 4) with h | h | h | h | h | h
              · exact hall.out j h
              · rw [h, hxy.1.1, hxy.2.1]
              · rw [h, hxy.1.2.1, hxy.2.2.1]
              · rw [h, hxy.1.2.2.1, hxy.2.2.2.1]
              · rw [h, hxy.1.2.2.2.1, hxy.2.2.2.2.1]
              · rw [h, hxy.1.2.2.2.2, hxy.2.2.2.2.2]
          · have hkn : k = n := by omega
            subst hkn
            go_wp2
            go_ret
            have hzy : JB l = JB r := list_ext_getD (by rw [HS.out.len, HT.out.len]) (fun j hj => hall.out j (by rw [HS.out.len] at hj; omega))
            exact ⟨ret_bool (by rw [hzy]; exact (eqL_self _).symm), hfin _ hbl⟩
      · have hz : eqL (JB l) (JB r) = false := by
          refine eqL_ne ?_
          intro h
          have h1 := hS.len
          have h2 := hT.len
          rw [h] at h1
          omega
        have hne : ¬ (n : Int) = (m : Int) := by omega
        rw [hz]
        go_enter Try.func33, Try.ntmps33
        go_wp2_with fail
        refine c1.mono ?_
        rintro e w1 ⟨rfl, b1⟩
        have c2 := specJobsOk_any B m cap' r w1 (hT.below b1) hr hm
        rw [hpb] at c2
        go_wp2_with fail
        refine c2.mono ?_
        rintro e w2 ⟨rfl, b2⟩
        go_wp2
        go_ret
        exact ⟨rfl, bthen b1 b2⟩
    · have hpb' : jobsB r = false := by simpa using hpb
      have hv : sameJobsB l r = false := by simp [sameJobsB, hpb']
      rw [hv]
      go_enter Try.func33, Try.ntmps33
      go_wp2_with fail
      refine c1.mono ?_
      rintro e w1 ⟨rfl, b1⟩
      have c2 := specJobsOk_any B m cap' r w1 (hT.below b1) hr hm
      rw [hpb'] at c2
      go_wp2_with fail
      refine c2.mono ?_
      rintro e w2 ⟨rfl, b2⟩
      go_wp2
      go_ret
      exact ⟨rfl, bthen b1 b2⟩
  · have hpa' : jobsB l = false := by simpa using hpa
    have hv : sameJobsB l r = false := by simp [sameJobsB, hpa']
    rw [hv]
    rw [hpa'] at c1
    go_enter Try.func33, Try.ntmps33
    go_wp2_with fail
    refine c1.mono ?_
    rintro e w1 ⟨rfl, b1⟩
    go_wp2
    go_ret
    exact ⟨rfl, b1⟩
end Go.Proofs.Ytokklkmibjpjnaa
namespace Go.Proofs.Ytokklkmibjpjnaa
set_option linter.unusedSimpArgs false
set_option linter.unusedVariables false
attribute [local go_sem] n_lt2 n_lt3 n_lt4 n_le2 n_le3
open Go.RowKit
def sameStateB (i0 t0 l0 l1 l2 : Int) (pl : List Pr) (ql : List Jb) (j0 u0 k0 k1 k2 : Int) (pl2 : List Pr) (ql2 : List Jb) : Bool :=
  stateB i0 t0 l0 l1 l2 pl ql && (stateB j0 u0 k0 k1 k2 pl2 ql2 && ((i0 == j0) && ((t0 == u0) && (samePairsB pl pl2 && (sameJobsB ql ql2 && ((l0 == k0) && ((l1 == k1) && (l2 == k2))))))))
attribute [local go_sem] Ext.cell Ext.frozen
set_option maxRecDepth 100000 in
set_option maxHeartbeats 4000000 in
theorem sameState_any (A : Option Addr) (n c : Nat) (B : Option Addr) (m d : Nat) (i0 t0 l0 l1 l2 : Int) (A2 : Option Addr) (n2 c2 : Nat) (B2 : Option Addr) (m2 d2 : Nat) (j0 u0 k0 k1 k2 : Int) (pl : List Pr) (ql : List Jb) (pl2 : List Pr) (ql2 : List Jb) (w : World) (hP : Sl w 2 A n (PR pl)) (hQ : Sl w 5 B m (JB ql)) (hU : Sl w 2 A2 n2 (PR pl2)) (hW : Sl w 5 B2 m2 (JB ql2)) (hl : pl.length = n) (hr : ql.length = m) (hl2 : pl2.length = n2) (hr2 : ql2.length = m2) (hn : n ≤ maxLen) (hm : m ≤ maxLen) (hn2 : n2 ≤ maxLen) (hm2 : m2 ≤ maxLen) :
    Calls Try.prog 10 #[.agg #[.int .i64 i0, .int .i64 t0, .slice A n c, .slice B m d, .int .i64 l0, .int .i64 l1, .int .i64 l2], .agg #[.int .i64 j0, .int .i64 u0, .slice A2 n2 c2, .slice B2 m2 d2, .int .i64 k0, .int .i64 k1, .int .i64 k2]] w fun e' w' => e' = .returned (.bool (sameStateB i0 t0 l0 l1 l2 pl ql j0 u0 k0 k1 k2 pl2 ql2)) ∧ Below w.heap.size w w' := by
  have hL := Lib.hid hl
  have hR := Lib.hid hr
  have hL2 := Lib.hid hl2
  have hR2 := Lib.hid hr2
  have HP := Lib.hid hP
  have HQ := Lib.hid hQ
  have HU := Lib.hid hU
  have HW := Lib.hid hW
  clear hP hQ hU hW hl hr hl2 hr2
  go_enter Try.func10, Try.ntmps10
  go_wp2_with fail
  refine calls_named ?_
  rintro v0 hv0
  have f0 : Below w.heap.size w v0 := by rw [hv0]; (repeat' (first | (with_reducible exact Below.refl _ _) | (with_reducible assumption) | (with_reducible refine Below.alloc ?_ ?_ _) | (with_reducible refine Below.drew ?_) | (with_reducible refine Below.setCell ?_ ?_ _) | (with_reducible refine bstep (by assumption) ?_ ?_) | (with_reducible exact Nat.le_refl _) | omega | (simp [*]; done) | (simp [*]; omega)))
  have z0 : w.heap.size + 2 ≤ v0.heap.size := by rw [hv0]; simp [size_set]
  have HP_0 := Lib.hid (HP.out.below f0)
  have HP_lt := Lib.hid (fun hn => HP.out.lt hn)
  have HQ_0 := Lib.hid (HQ.out.below f0)
  have HQ_lt := Lib.hid (fun hn => HQ.out.lt hn)
  have HU_0 := Lib.hid (HU.out.below f0)
  have HU_lt := Lib.hid (fun hn => HU.out.lt hn)
  have HW_0 := Lib.hid (HW.out.below f0)
  have HW_lt := Lib.hid (fun hn => HW.out.lt hn)
  have Ha_0 : Hid (Blk v0 w.heap.size 29 #[.int .i64 i0, .int .i64 t0, .slice A n c, .slice B m d, .int .i64 l0, .int .i64 l1, .int .i64 l2]) := by rw [hv0]; exact (Blk.new_at _ _ _ _ (by simp)).alloc _
  have Hb_0 : Hid (Blk v0 (w.heap.size + 1) 29 #[.int .i64 j0, .int .i64 u0, .slice A2 n2 c2, .slice B2 m2 d2, .int .i64 k0, .int .i64 k1, .int .i64 k2]) := by rw [hv0]; exact Blk.new_at _ _ _ _ (by simp)
  clear hv0
  generalize hg1 : w.heap.size + 1 = g1 at *
  have lg1 : w.heap.size < g1 := by omega
  have lgz : g1 < v0.heap.size := by omega
  have nq1x0 : ¬ g1 = w.heap.size := by omega
  have nq0x1 : ¬ w.heap.size = g1 := by omega
  clear hg1
  have lt_a := Ha_0.out.lt
  obtain ⟨r_a0, r_a1, r_a2, r_a3, r_a4, r_a5, r_a6⟩ := bc7 Ha_0.out
  have lt_b := Hb_0.out.lt
  obtain ⟨r_b0, r_b1, r_b2, r_b3, r_b4, r_b5, r_b6⟩ := bc7 Hb_0.out
  have cc := stateOk_any A n c B m d i0 t0 l0 l1 l2 pl ql v0 HP_0.out HQ_0.out hL.out hR.out hn hm
  cases q1 : (stateB i0 t0 l0 l1 l2 pl ql) with
  | false =>
    rw [q1] at cc
    have Hq1 := Lib.hid q1
    clear q1
    refine (cc).mono ?_
    rintro e v1 ⟨rfl, b1⟩
    have f1 := bthen f0 b1
    have z1 := b1.size
    have HP_1 := Lib.hid (HP_0.out.below b1)
    have HQ_1 := Lib.hid (HQ_0.out.below b1)
    have HU_1 := Lib.hid (HU_0.out.below b1)
    have HW_1 := Lib.hid (HW_0.out.below b1)
    have Ha_1 := Lib.hid (Ha_0.out.below b1)
    have Hb_1 := Lib.hid (Hb_0.out.below b1)
    clear lt_a r_a0 r_a1 r_a2 r_a3 r_a4 r_a5 r_a6 lt_b r_b0 r_b1 r_b2 r_b3 r_b4 r_b5 r_b6
    clear HP_0 HQ_0 HU_0 HW_0 Ha_0 Hb_0
    have lt_a := Ha_1.out.lt
    obtain ⟨r_a0, r_a1, r_a2, r_a3, r_a4, r_a5, r_a6⟩ := bc7 Ha_1.out
    have lt_b := Hb_1.out.lt
    obtain ⟨r_b0, r_b1, r_b2, r_b3, r_b4, r_b5, r_b6⟩ := bc7 Hb_1.out
    have hv : sameStateB i0 t0 l0 l1 l2 pl ql j0 u0 k0 k1 k2 pl2 ql2 = false := by unfold sameStateB; rw [Hq1.out]; simp
    have HV := Lib.hid hv
    clear hv
    go_wp21
    go_ret
    exact ⟨ret_bool HV.out.symm, f1⟩
  | true =>
    rw [q1] at cc
    have Hq1 := Lib.hid q1
    clear q1
    refine (cc).mono ?_
    rintro e v1 ⟨rfl, b1⟩
    have f1 := bthen f0 b1
    have z1 := b1.size
    have HP_1 := Lib.hid (HP_0.out.below b1)
    have HQ_1 := Lib.hid (HQ_0.out.below b1)
    have HU_1 := Lib.hid (HU_0.out.below b1)
    have HW_1 := Lib.hid (HW_0.out.below b1)
    have Ha_1 := Lib.hid (Ha_0.out.below b1)
    have Hb_1 := Lib.hid (Hb_0.out.below b1)
    clear lt_a r_a0 r_a1 r_a2 r_a3 r_a4 r_a5 r_a6 lt_b r_b0 r_b1 r_b2 r_b3 r_b4 r_b5 r_b6
    clear HP_0 HQ_0 HU_0 HW_0 Ha_0 Hb_0
    have lt_a := Ha_1.out.lt
    obtain ⟨r_a0, r_a1, r_a2, r_a3, r_a4, r_a5, r_a6⟩ := bc7 Ha_1.out
    have lt_b := Hb_1.out.lt
    obtain ⟨r_b0, r_b1, r_b2, r_b3, r_b4, r_b5, r_b6⟩ := bc7 Hb_1.out
    clear cc
    have cc := stateOk_any A2 n2 c2 B2 m2 d2 j0 u0 k0 k1 k2 pl2 ql2 v1 HU_1.out HW_1.out hL2.out hR2.out hn2 hm2
    cases q2 : (stateB j0 u0 k0 k1 k2 pl2 ql2) with
    | false =>
      rw [q2] at cc
      have Hq2 := Lib.hid q2
      clear q2
      go_wp2_with fail
      refine (cc).mono ?_
      rintro e v2 ⟨rfl, b2⟩
      have f2 := bthen f1 b2
      have z2 := b2.size
      have HP_2 := Lib.hid (HP_1.out.below b2)
      have HQ_2 := Lib.hid (HQ_1.out.below b2)
      have HU_2 := Lib.hid (HU_1.out.below b2)
      have HW_2 := Lib.hid (HW_1.out.below b2)
      have Ha_2 := Lib.hid (Ha_1.out.below b2)
      have Hb_2 := Lib.hid (Hb_1.out.below b2)
      clear lt_a r_a0 r_a1 r_a2 r_a3 r_a4 r_a5 r_a6 lt_b r_b0 r_b1 r_b2 r_b3 r_b4 r_b5 r_b6
      clear HP_1 HQ_1 HU_1 HW_1 Ha_1 Hb_1
      have lt_a := Ha_2.out.lt
      obtain ⟨r_a0, r_a1, r_a2, r_a3, r_a4, r_a5, r_a6⟩ := bc7 Ha_2.out
      have lt_b := Hb_2.out.lt
      obtain ⟨r_b0, r_b1, r_b2, r_b3, r_b4, r_b5, r_b6⟩ := bc7 Hb_2.out
      have hv : sameStateB i0 t0 l0 l1 l2 pl ql j0 u0 k0 k1 k2 pl2 ql2 = false := by unfold sameStateB; rw [Hq1.out, Hq2.out]; simp
      have HV := Lib.hid hv
      clear hv
      go_wp21
      go_ret
      exact ⟨ret_bool HV.out.symm, f2⟩
    | true =>
      rw [q2] at cc
      have Hq2 := Lib.hid q2
      clear q2
      go_wp2_with fail
      refine (cc).mono ?_
      rintro e v2 ⟨rfl, b2⟩
      have f2 := bthen f1 b2
      have z2 := b2.size
      have HP_2 := Lib.hid (HP_1.out.below b2)
      have HQ_2 := Lib.hid (HQ_1.out.below b2)
      have HU_2 := Lib.hid (HU_1.out.below b2)
      have HW_2 := Lib.hid (HW_1.out.below b2)
      have Ha_2 := Lib.hid (Ha_1.out.below b2)
      have Hb_2 := Lib.hid (Hb_1.out.below b2)
      clear lt_a r_a0 r_a1 r_a2 r_a3 r_a4 r_a5 r_a6 lt_b r_b0 r_b1 r_b2 r_b3 r_b4 r_b5 r_b6
      clear HP_1 HQ_1 HU_1 HW_1 Ha_1 Hb_1
      have lt_a := Ha_2.out.lt
      obtain ⟨r_a0, r_a1, r_a2, r_a3, r_a4, r_a5, r_a6⟩ := bc7 Ha_2.out
      have lt_b := Hb_2.out.lt
      obtain ⟨r_b0, r_b1, r_b2, r_b3, r_b4, r_b5, r_b6⟩ := bc7 Hb_2.out
      clear cc
      cases q3 : (i0 == j0) with
      | false =>
        have Hq3 := Lib.hid q3
        have hv : sameStateB i0 t0 l0 l1 l2 pl ql j0 u0 k0 k1 k2 pl2 ql2 = false := by unfold sameStateB; rw [Hq1.out, Hq2.out, Hq3.out]; simp
        have HV := Lib.hid hv
        clear hv
        go_wp21
        go_ret
        exact ⟨ret_bool HV.out.symm, f2⟩
      | true =>
        have Hq3 : Hid ((i0 == j0) = true) := q3
        cases q4 : (t0 == u0) with
        | false =>
          have Hq4 := Lib.hid q4
          have hv : sameStateB i0 t0 l0 l1 l2 pl ql j0 u0 k0 k1 k2 pl2 ql2 = false := by unfold sameStateB; rw [Hq1.out, Hq2.out, Hq3.out, Hq4.out]; simp
          have HV := Lib.hid hv
          clear hv
          go_wp21
          go_ret
          exact ⟨ret_bool HV.out.symm, f2⟩
        | true =>
          have Hq4 : Hid ((t0 == u0) = true) := q4
          have cc := samePairs_any A A2 n n2 c c2 pl pl2 v2 HP_2.out HU_2.out hL.out hL2.out hn hn2
          cases q5 : (samePairsB pl pl2) with
          | false =>
            rw [q5] at cc
            have Hq5 := Lib.hid q5
            clear q5
            go_wp2_with fail
            refine (cc).mono ?_
            rintro e v3 ⟨rfl, b3⟩
            have f3 := bthen f2 b3
            have z3 := b3.size
            have HP_3 := Lib.hid (HP_2.out.below b3)
            have HQ_3 := Lib.hid (HQ_2.out.below b3)
            have HU_3 := Lib.hid (HU_2.out.below b3)
            have HW_3 := Lib.hid (HW_2.out.below b3)
            have Ha_3 := Lib.hid (Ha_2.out.below b3)
            have Hb_3 := Lib.hid (Hb_2.out.below b3)
            clear lt_a r_a0 r_a1 r_a2 r_a3 r_a4 r_a5 r_a6 lt_b r_b0 r_b1 r_b2 r_b3 r_b4 r_b5 r_b6
            clear HP_2 HQ_2 HU_2 HW_2 Ha_2 Hb_2
            have lt_a := Ha_3.out.lt
            obtain ⟨r_a0, r_a1, r_a2, r_a3, r_a4, r_a5, r_a6⟩ := bc7 Ha_3.out
            have lt_b := Hb_3.out.lt
            obtain ⟨r_b0, r_b1, r_b2, r_b3, r_b4, r_b5, r_b6⟩ := bc7 Hb_3.out
            have hv : sameStateB i0 t0 l0 l1 l2 pl ql j0 u0 k0 k1 k2 pl2 ql2 = false := by unfold sameStateB; rw [Hq1.out, Hq2.out, Hq3.out, Hq4.out, Hq5.out]; simp
            have HV := Lib.hid hv
            clear hv
            go_wp21
            go_ret
            exact ⟨ret_bool HV.out.symm, f3⟩
          | true =>
            rw [q5] at cc
            have Hq5 := Lib.hid q5
            clear q5
            go_wp2_with fail
            refine (cc).mono ?_
            rintro e v3 ⟨rfl, b3⟩
            have f3 := bthen f2 b3
            have z3 := b3.size
            have HP_3 := Lib.hid (HP_2.out.below b3)
            have HQ_3 := Lib.hid (HQ_2.out.below b3)
            have HU_3 := Lib.hid (HU_2.out.below b3)
            have HW_3 := Lib.hid (HW_2.out.below b3)
            have Ha_3 := Lib.hid (Ha_2.out.below b3)
            have Hb_3 := Lib.hid (Hb_2.out.below b3)
            clear lt_a r_a0 r_a1 r_a2 r_a3 r_a4 r_a5 r_a6 lt_b r_b0 r_b1 r_b2 r_b3 r_b4 r_b5 r_b6
            clear HP_2 HQ_2 HU_2 HW_2 Ha_2 Hb_2
            have lt_a := Ha_3.out.lt
            obtain ⟨r_a0, r_a1, r_a2, r_a3, r_a4, r_a5, r_a6⟩ := bc7 Ha_3.out
            have lt_b := Hb_3.out.lt
            obtain ⟨r_b0, r_b1, r_b2, r_b3, r_b4, r_b5, r_b6⟩ := bc7 Hb_3.out
            clear cc
            clear q3 q4
            have cc := sameJobs_any B B2 m m2 d d2 ql ql2 v3 HQ_3.out HW_3.out hR.out hR2.out hm hm2
            cases q6 : (sameJobsB ql ql2) with
            | false =>
              rw [q6] at cc
              have Hq6 := Lib.hid q6
              clear q6
              go_wp2_with fail
              refine (cc).mono ?_
              rintro e v4 ⟨rfl, b4⟩
              have f4 := bthen f3 b4
              have z4 := b4.size
              have HP_4 := Lib.hid (HP_3.out.below b4)
              have HQ_4 := Lib.hid (HQ_3.out.below b4)
              have HU_4 := Lib.hid (HU_3.out.below b4)
              have HW_4 := Lib.hid (HW_3.out.below b4)
              have Ha_4 := Lib.hid (Ha_3.out.below b4)
              have Hb_4 := Lib.hid (Hb_3.out.below b4)
              clear lt_a r_a0 r_a1 r_a2 r_a3 r_a4 r_a5 r_a6 lt_b r_b0 r_b1 r_b2 r_b3 r_b4 r_b5 r_b6
              clear HP_3 HQ_3 HU_3 HW_3 Ha_3 Hb_3
              have lt_a := Ha_4.out.lt
              obtain ⟨r_a0, r_a1, r_a2, r_a3, r_a4, r_a5, r_a6⟩ := bc7 Ha_4.out
              have lt_b := Hb_4.out.lt
              obtain ⟨r_b0, r_b1, r_b2, r_b3, r_b4, r_b5, r_b6⟩ := bc7 Hb_4.out
              have hv : sameStateB i0 t0 l0 l1 l2 pl ql j0 u0 k0 k1 k2 pl2 ql2 = false := by unfold sameStateB; rw [Hq1.out, Hq2.out, Hq3.out, Hq4.out, Hq5.out, Hq6.out]; simp
              have HV := Lib.hid hv
              clear hv
              go_wp21
              go_ret
              exact ⟨ret_bool HV.out.symm, f4⟩
            | true =>
              rw [q6] at cc
              have Hq6 := Lib.hid q6
              clear q6
              go_wp2_with fail
              refine (cc).mono ?_
              rintro e v4 ⟨rfl, b4⟩
              have f4 := bthen f3 b4
              have z4 := b4.size
              have HP_4 := Lib.hid (HP_3.out.below b4)
              have HQ_4 := Lib.hid (HQ_3.out.below b4)
              have HU_4 := Lib.hid (HU_3.out.below b4)
              have HW_4 := Lib.hid (HW_3.out.below b4)
              have Ha_4 := Lib.hid (Ha_3.out.below b4)
              have Hb_4 := Lib.hid (Hb_3.out.below b4)
              clear lt_a r_a0 r_a1 r_a2 r_a3 r_a4 r_a5 r_a6 lt_b r_b0 r_b1 r_b2 r_b3 r_b4 r_b5 r_b6
              clear HP_3 HQ_3 HU_3 HW_3 Ha_3 Hb_3
              have lt_a := Ha_4.out.lt
              obtain ⟨r_a0, r_a1, r_a2, r_a3, r_a4, r_a5, r_a6⟩ := bc7 Ha_4.out
              have lt_b := Hb_4.out.lt
              obtain ⟨r_b0, r_b1, r_b2, r_b3, r_b4, r_b5, r_b6⟩ := bc7 Hb_4.out
              clear cc
              cases q7 : (l0 == k0) with
              | false =>
                have Hq7 := Lib.hid q7
                have hv : sameStateB i0 t0 l0 l1 l2 pl ql j0 u0 k0 k1 k2 pl2 ql2 = false := by unfold sameStateB; rw [Hq1.out, Hq2.out, Hq3.out, Hq4.out, Hq5.out, Hq6.out, Hq7.out]; simp
                have HV := Lib.hid hv
                clear hv
                go_wp21
                go_ret
                exact ⟨ret_bool HV.out.symm, f4⟩
              | true =>
                have Hq7 : Hid ((l0 == k0) = true) := q7
                cases q8 : (l1 == k1) with
                | false =>
                  have Hq8 := Lib.hid q8
                  have hv : sameStateB i0 t0 l0 l1 l2 pl ql j0 u0 k0 k1 k2 pl2 ql2 = false := by unfold sameStateB; rw [Hq1.out, Hq2.out, Hq3.out, Hq4.out, Hq5.out, Hq6.out, Hq7.out, Hq8.out]; simp
                  have HV := Lib.hid hv
                  clear hv
                  go_wp21
                  go_ret
                  exact ⟨ret_bool HV.out.symm, f4⟩
                | true =>
                  have Hq8 : Hid ((l1 == k1) = true) := q8
                  cases q9 : (l2 == k2) with
                  | false =>
                    have Hq9 := Lib.hid q9
                    have hv : sameStateB i0 t0 l0 l1 l2 pl ql j0 u0 k0 k1 k2 pl2 ql2 = false := by unfold sameStateB; rw [Hq1.out, Hq2.out, Hq3.out, Hq4.out, Hq5.out, Hq6.out, Hq7.out, Hq8.out, Hq9.out]; simp
                    have HV := Lib.hid hv
                    clear hv
                    go_wp21
                    go_ret
                    exact ⟨ret_bool HV.out.symm, f4⟩
                  | true =>
                    have Hq9 : Hid ((l2 == k2) = true) := q9
                    have hv : sameStateB i0 t0 l0 l1 l2 pl ql j0 u0 k0 k1 k2 pl2 ql2 = true := by unfold sameStateB; rw [Hq1.out, Hq2.out, Hq3.out, Hq4.out, Hq5.out, Hq6.out, Hq7.out, Hq8.out, Hq9.out]; rfl
                    have HV := Lib.hid hv
                    clear hv
                    go_wp21
                    go_ret
                    exact ⟨ret_bool HV.out.symm, f4⟩
set_option maxRecDepth 100000 in
set_option maxHeartbeats 4000000 in
theorem specSameState_any (A : Option Addr) (n c : Nat) (B : Option Addr) (m d : Nat) (i0 t0 l0 l1 l2 : Int) (A2 : Option Addr) (n2 c2 : Nat) (B2 : Option Addr) (m2 d2 : Nat) (j0 u0 k0 k1 k2 : Int) (pl : List Pr) (ql : List Jb) (pl2 : List Pr) (ql2 : List Jb) (w : World) (hP : Sl w 2 A n (PR pl)) (hQ : Sl w 5 B m (JB ql)) (hU : Sl w 2 A2 n2 (PR pl2)) (hW : Sl w 5 B2 m2 (JB ql2)) (hl : pl.length = n) (hr : ql.length = m) (hl2 : pl2.length = n2) (hr2 : ql2.length = m2) (hn : n ≤ maxLen) (hm : m ≤ maxLen) (hn2 : n2 ≤ maxLen) (hm2 : m2 ≤ maxLen) :
    Calls Try.prog 9 #[.agg #[.int .i64 i0, .int .i64 t0, .slice A n c, .slice B m d, .int .i64 l0, .int .i64 l1, .int .i64 l2], .agg #[.int .i64 j0, .int .i64 u0, .slice A2 n2 c2, .slice B2 m2 d2, .int .i64 k0, .int .i64 k1, .int .i64 k2]] w fun e' w' => e' = .returned (.bool (sameStateB i0 t0 l0 l1 l2 pl ql j0 u0 k0 k1 k2 pl2 ql2)) ∧ Below w.heap.size w w' := by
  have hL := Lib.hid hl
  have hR := Lib.hid hr
  have hL2 := Lib.hid hl2
  have hR2 := Lib.hid hr2
  have HP := Lib.hid hP
  have HQ := Lib.hid hQ
  have HU := Lib.hid hU
  have HW := Lib.hid hW
  clear hP hQ hU hW hl hr hl2 hr2
  go_enter Try.func9, Try.ntmps9
  go_wp2_with fail
  refine calls_named ?_
  rintro v0 hv0
  have f0 : Below w.heap.size w v0 := by rw [hv0]; (repeat' (first | (with_reducible exact Below.refl _ _) | (with_reducible assumption) | (with_reducible refine Below.alloc ?_ ?_ _) | (with_reducible refine Below.drew ?_) | (with_reducible refine Below.setCell ?_ ?_ _) | (with_reducible refine bstep (by assumption) ?_ ?_) | (with_reducible exact Nat.le_refl _) | omega | (simp [*]; done) | (simp [*]; omega)))
  have z0 : w.heap.size + 2 ≤ v0.heap.size := by rw [hv0]; simp [size_set]
  have HP_0 := Lib.hid (HP.out.below f0)
  have HP_lt := Lib.hid (fun hn => HP.out.lt hn)
  have HQ_0 := Lib.hid (HQ.out.below f0)
  have HQ_lt := Lib.hid (fun hn => HQ.out.lt hn)
  have HU_0 := Lib.hid (HU.out.below f0)
  have HU_lt := Lib.hid (fun hn => HU.out.lt hn)
  have HW_0 := Lib.hid (HW.out.below f0)
  have HW_lt := Lib.hid (fun hn => HW.out.lt hn)
  have Ha_0 : Hid (Blk v0 w.heap.size 29 #[.int .i64 i0, .int .i64 t0, .slice A n c, .slice B m d, .int .i64 l0, .int .i64 l1, .int .i64 l2]) := by rw [hv0]; exact (Blk.new_at _ _ _ _ (by simp)).alloc _
  have Hb_0 : Hid (Blk v0 (w.heap.size + 1) 29 #[.int .i64 j0, .int .i64 u0, .slice A2 n2 c2, .slice B2 m2 d2, .int .i64 k0, .int .i64 k1, .int .i64 k2]) := by rw [hv0]; exact Blk.new_at _ _ _ _ (by simp)
  clear hv0
  generalize hg1 : w.heap.size + 1 = g1 at *
  have lg1 : w.heap.size < g1 := by omega
  have lgz : g1 < v0.heap.size := by omega
  have nq1x0 : ¬ g1 = w.heap.size := by omega
  have nq0x1 : ¬ w.heap.size = g1 := by omega
  clear hg1
  have lt_a := Ha_0.out.lt
  obtain ⟨r_a0, r_a1, r_a2, r_a3, r_a4, r_a5, r_a6⟩ := bc7 Ha_0.out
  have lt_b := Hb_0.out.lt
  obtain ⟨r_b0, r_b1, r_b2, r_b3, r_b4, r_b5, r_b6⟩ := bc7 Hb_0.out
  have cc := specStateOk_any A n c B m d i0 t0 l0 l1 l2 pl ql v0 HP_0.out HQ_0.out hL.out hR.out hn hm
  cases q1 : (stateB i0 t0 l0 l1 l2 pl ql) with
  | false =>
    rw [q1] at cc
    have Hq1 := Lib.hid q1
    clear q1
    refine (cc).mono ?_
    rintro e v1 ⟨rfl, b1⟩
    have f1 := bthen f0 b1
    have z1 := b1.size
    have HP_1 := Lib.hid (HP_0.out.below b1)
    have HQ_1 := Lib.hid (HQ_0.out.below b1)
    have HU_1 := Lib.hid (HU_0.out.below b1)
    have HW_1 := Lib.hid (HW_0.out.below b1)
    have Ha_1 := Lib.hid (Ha_0.out.below b1)
    have Hb_1 := Lib.hid (Hb_0.out.below b1)
    clear lt_a r_a0 r_a1 r_a2 r_a3 r_a4 r_a5 r_a6 lt_b r_b0 r_b1 r_b2 r_b3 r_b4 r_b5 r_b6
    clear HP_0 HQ_0 HU_0 HW_0 Ha_0 Hb_0
    have lt_a := Ha_1.out.lt
    obtain ⟨r_a0, r_a1, r_a2, r_a3, r_a4, r_a5, r_a6⟩ := bc7 Ha_1.out
    have lt_b := Hb_1.out.lt
    obtain ⟨r_b0, r_b1, r_b2, r_b3, r_b4, r_b5, r_b6⟩ := bc7 Hb_1.out
    have hv : sameStateB i0 t0 l0 l1 l2 pl ql j0 u0 k0 k1 k2 pl2 ql2 = false := by unfold sameStateB; rw [Hq1.out]; simp
    have HV := Lib.hid hv
    clear hv
    go_wp21
    go_ret
    exact ⟨ret_bool HV.out.symm, f1⟩
  | true =>
    rw [q1] at cc
    have Hq1 := Lib.hid q1
    clear q1
    refine (cc).mono ?_
    rintro e v1 ⟨rfl, b1⟩
    have f1 := bthen f0 b1
    have z1 := b1.size
    have HP_1 := Lib.hid (HP_0.out.below b1)
    have HQ_1 := Lib.hid (HQ_0.out.below b1)
    have HU_1 := Lib.hid (HU_0.out.below b1)
    have HW_1 := Lib.hid (HW_0.out.below b1)
    have Ha_1 := Lib.hid (Ha_0.out.below b1)
    have Hb_1 := Lib.hid (Hb_0.out.below b1)
    clear lt_a r_a0 r_a1 r_a2 r_a3 r_a4 r_a5 r_a6 lt_b r_b0 r_b1 r_b2 r_b3 r_b4 r_b5 r_b6
    clear HP_0 HQ_0 HU_0 HW_0 Ha_0 Hb_0
    have lt_a := Ha_1.out.lt
    obtain ⟨r_a0, r_a1, r_a2, r_a3, r_a4, r_a5, r_a6⟩ := bc7 Ha_1.out
    have lt_b := Hb_1.out.lt
    obtain ⟨r_b0, r_b1, r_b2, r_b3, r_b4, r_b5, r_b6⟩ := bc7 Hb_1.out
    clear cc
    have cc := specStateOk_any A2 n2 c2 B2 m2 d2 j0 u0 k0 k1 k2 pl2 ql2 v1 HU_1.out HW_1.out hL2.out hR2.out hn2 hm2
    cases q2 : (stateB j0 u0 k0 k1 k2 pl2 ql2) with
    | false =>
      rw [q2] at cc
      have Hq2 := Lib.hid q2
      clear q2
      go_wp2_with fail
      refine (cc).mono ?_
      rintro e v2 ⟨rfl, b2⟩
      have f2 := bthen f1 b2
      have z2 := b2.size
      have HP_2 := Lib.hid (HP_1.out.below b2)
      have HQ_2 := Lib.hid (HQ_1.out.below b2)
      have HU_2 := Lib.hid (HU_1.out.below b2)
      have HW_2 := Lib.hid (HW_1.out.below b2)
      have Ha_2 := Lib.hid (Ha_1.out.below b2)
      have Hb_2 := Lib.hid (Hb_1.out.below b2)
      clear lt_a r_a0 r_a1 r_a2 r_a3 r_a4 r_a5 r_a6 lt_b r_b0 r_b1 r_b2 r_b3 r_b4 r_b5 r_b6
      clear HP_1 HQ_1 HU_1 HW_1 Ha_1 Hb_1
      have lt_a := Ha_2.out.lt
      obtain ⟨r_a0, r_a1, r_a2, r_a3, r_a4, r_a5, r_a6⟩ := bc7 Ha_2.out
      have lt_b := Hb_2.out.lt
      obtain ⟨r_b0, r_b1, r_b2, r_b3, r_b4, r_b5, r_b6⟩ := bc7 Hb_2.out
      have hv : sameStateB i0 t0 l0 l1 l2 pl ql j0 u0 k0 k1 k2 pl2 ql2 = false := by unfold sameStateB; rw [Hq1.out, Hq2.out]; simp
      have HV := Lib.hid hv
      clear hv
      go_wp21
      go_ret
      exact ⟨ret_bool HV.out.symm, f2⟩
    | true =>
      rw [q2] at cc
      have Hq2 := Lib.hid q2
      clear q2
      go_wp2_with fail
      refine (cc).mono ?_
      rintro e v2 ⟨rfl, b2⟩
      have f2 := bthen f1 b2
      have z2 := b2.size
      have HP_2 := Lib.hid (HP_1.out.below b2)
      have HQ_2 := Lib.hid (HQ_1.out.below b2)
      have HU_2 := Lib.hid (HU_1.out.below b2)
      have HW_2 := Lib.hid (HW_1.out.below b2)
      have Ha_2 := Lib.hid (Ha_1.out.below b2)
      have Hb_2 := Lib.hid (Hb_1.out.below b2)
      clear lt_a r_a0 r_a1 r_a2 r_a3 r_a4 r_a5 r_a6 lt_b r_b0 r_b1 r_b2 r_b3 r_b4 r_b5 r_b6
      clear HP_1 HQ_1 HU_1 HW_1 Ha_1 Hb_1
      have lt_a := Ha_2.out.lt
      obtain ⟨r_a0, r_a1, r_a2, r_a3, r_a4, r_a5, r_a6⟩ := bc7 Ha_2.out
      have lt_b := Hb_2.out.lt
      obtain ⟨r_b0, r_b1, r_b2, r_b3, r_b4, r_b5, r_b6⟩ := bc7 Hb_2.out
      clear cc
      cases q3 : (i0 == j0) with
      | false =>
        have Hq3 := Lib.hid q3
        have hv : sameStateB i0 t0 l0 l1 l2 pl ql j0 u0 k0 k1 k2 pl2 ql2 = false := by unfold sameStateB; rw [Hq1.out, Hq2.out, Hq3.out]; simp
        have HV := Lib.hid hv
        clear hv
        go_wp21
        go_ret
        exact ⟨ret_bool HV.out.symm, f2⟩
      | true =>
        have Hq3 : Hid ((i0 == j0) = true) := q3
        cases q4 : (t0 == u0) with
        | false =>
          have Hq4 := Lib.hid q4
          have hv : sameStateB i0 t0 l0 l1 l2 pl ql j0 u0 k0 k1 k2 pl2 ql2 = false := by unfold sameStateB; rw [Hq1.out, Hq2.out, Hq3.out, Hq4.out]; simp
          have HV := Lib.hid hv
          clear hv
          go_wp21
          go_ret
          exact ⟨ret_bool HV.out.symm, f2⟩
        | true =>
          have Hq4 : Hid ((t0 == u0) = true) := q4
          have cc := specSamePairs_any A A2 n n2 c c2 pl pl2 v2 HP_2.out HU_2.out hL.out hL2.out hn hn2
          cases q5 : (samePairsB pl pl2) with
          | false =>
            rw [q5] at cc
            have Hq5 := Lib.hid q5
            clear q5
            go_wp2_with fail
            refine (cc).mono ?_
            rintro e v3 ⟨rfl, b3⟩
            have f3 := bthen f2 b3
            have z3 := b3.size
            have HP_3 := Lib.hid (HP_2.out.below b3)
            have HQ_3 := Lib.hid (HQ_2.out.below b3)
            have HU_3 := Lib.hid (HU_2.out.below b3)
            have HW_3 := Lib.hid (HW_2.out.below b3)
            have Ha_3 := Lib.hid (Ha_2.out.below b3)
            have Hb_3 := Lib.hid (Hb_2.out.below b3)
            clear lt_a r_a0 r_a1 r_a2 r_a3 r_a4 r_a5 r_a6 lt_b r_b0 r_b1 r_b2 r_b3 r_b4 r_b5 r_b6
            clear HP_2 HQ_2 HU_2 HW_2 Ha_2 Hb_2
            have lt_a := Ha_3.out.lt
            obtain ⟨r_a0, r_a1, r_a2, r_a3, r_a4, r_a5, r_a6⟩ := bc7 Ha_3.out
            have lt_b := Hb_3.out.lt
            obtain ⟨r_b0, r_b1, r_b2, r_b3, r_b4, r_b5, r_b6⟩ := bc7 Hb_3.out
            have hv : sameStateB i0 t0 l0 l1 l2 pl ql j0 u0 k0 k1 k2 pl2 ql2 = false := by unfold sameStateB; rw [Hq1.out, Hq2.out, Hq3.out, Hq4.out, Hq5.out]; simp
            have HV := Lib.hid hv
            clear hv
            go_wp21
            go_ret
            exact ⟨ret_bool HV.out.symm, f3⟩
          | true =>
            rw [q5] at cc
            have Hq5 := Lib.hid q5
            clear q5
            go_wp2_with fail
            refine (cc).mono ?_
            rintro e v3 ⟨rfl, b3⟩
            have f3 := bthen f2 b3
            have z3 := b3.size
            have HP_3 := Lib.hid (HP_2.out.below b3)
            have HQ_3 := Lib.hid (HQ_2.out.below b3)
            have HU_3 := Lib.hid (HU_2.out.below b3)
            have HW_3 := Lib.hid (HW_2.out.below b3)
            have Ha_3 := Lib.hid (Ha_2.out.below b3)
            have Hb_3 := Lib.hid (Hb_2.out.below b3)
            clear lt_a r_a0 r_a1 r_a2 r_a3 r_a4 r_a5 r_a6 lt_b r_b0 r_b1 r_b2 r_b3 r_b4 r_b5 r_b6
            clear HP_2 HQ_2 HU_2 HW_2 Ha_2 Hb_2
            have lt_a := Ha_3.out.lt
            obtain ⟨r_a0, r_a1, r_a2, r_a3, r_a4, r_a5, r_a6⟩ := bc7 Ha_3.out
            have lt_b := Hb_3.out.lt
            obtain ⟨r_b0, r_b1, r_b2, r_b3, r_b4, r_b5, r_b6⟩ := bc7 Hb_3.out
            clear cc
            clear q3 q4
            have cc := specSameJobs_any B B2 m m2 d d2 ql ql2 v3 HQ_3.out HW_3.out hR.out hR2.out hm hm2
            cases q6 : (sameJobsB ql ql2) with
            | false =>
              rw [q6] at cc
              have Hq6 := Lib.hid q6
              clear q6
              go_wp2_with fail
              refine (cc).mono ?_
              rintro e v4 ⟨rfl, b4⟩
              have f4 := bthen f3 b4
              have z4 := b4.size
              have HP_4 := Lib.hid (HP_3.out.below b4)
              have HQ_4 := Lib.hid (HQ_3.out.below b4)
              have HU_4 := Lib.hid (HU_3.out.below b4)
              have HW_4 := Lib.hid (HW_3.out.below b4)
              have Ha_4 := Lib.hid (Ha_3.out.below b4)
              have Hb_4 := Lib.hid (Hb_3.out.below b4)
              clear lt_a r_a0 r_a1 r_a2 r_a3 r_a4 r_a5 r_a6 lt_b r_b0 r_b1 r_b2 r_b3 r_b4 r_b5 r_b6
              clear HP_3 HQ_3 HU_3 HW_3 Ha_3 Hb_3
              have lt_a := Ha_4.out.lt
              obtain ⟨r_a0, r_a1, r_a2, r_a3, r_a4, r_a5, r_a6⟩ := bc7 Ha_4.out
              have lt_b := Hb_4.out.lt
              obtain ⟨r_b0, r_b1, r_b2, r_b3, r_b4, r_b5, r_b6⟩ := bc7 Hb_4.out
              have hv : sameStateB i0 t0 l0 l1 l2 pl ql j0 u0 k0 k1 k2 pl2 ql2 = false := by unfold sameStateB; rw [Hq1.out, Hq2.out, Hq3.out, Hq4.out, Hq5.out, Hq6.out]; simp
              have HV := Lib.hid hv
              clear hv
              go_wp21
              go_ret
              exact ⟨ret_bool HV.out.symm, f4⟩
            | true =>
              rw [q6] at cc
              have Hq6 := Lib.hid q6
              clear q6
              go_wp2_with fail
              refine (cc).mono ?_
              rintro e v4 ⟨rfl, b4⟩
              have f4 := bthen f3 b4
              have z4 := b4.size
              have HP_4 := Lib.hid (HP_3.out.below b4)
              have HQ_4 := Lib.hid (HQ_3.out.below b4)
              have HU_4 := Lib.hid (HU_3.out.below b4)
              have HW_4 := Lib.hid (HW_3.out.below b4)
              have Ha_4 := Lib.hid (Ha_3.out.below b4)
              have Hb_4 := Lib.hid (Hb_3.out.below b4)
              clear lt_a r_a0 r_a1 r_a2 r_a3 r_a4 r_a5 r_a6 lt_b r_b0 r_b1 r_b2 r_b3 r_b4 r_b5 r_b6
              clear HP_3 HQ_3 HU_3 HW_3 Ha_3 Hb_3
              have lt_a := Ha_4.out.lt
              obtain ⟨r_a0, r_a1, r_a2, r_a3, r_a4, r_a5, r_a6⟩ := bc7 Ha_4.out
              have lt_b := Hb_4.out.lt
              obtain ⟨r_b0, r_b1, r_b2, r_b3, r_b4, r_b5, r_b6⟩ := bc7 Hb_4.out
              clear cc
              cases q7 : (l0 == k0) with
              | false =>
                have Hq7 := Lib.hid q7
                have hv : sameStateB i0 t0 l0 l1 l2 pl ql j0 u0 k0 k1 k2 pl2 ql2 = false := by unfold sameStateB; rw [Hq1.out, Hq2.out, Hq3.out, Hq4.out, Hq5.out, Hq6.out, Hq7.out]; simp
                have HV := Lib.hid hv
                clear hv
                go_wp21
                go_ret
                exact ⟨ret_bool HV.out.symm, f4⟩
              | true =>
                have Hq7 : Hid ((l0 == k0) = true) := q7
                cases q8 : (l1 == k1) with
                | false =>
                  have Hq8 := Lib.hid q8
                  have hv : sameStateB i0 t0 l0 l1 l2 pl ql j0 u0 k0 k1 k2 pl2 ql2 = false := by unfold sameStateB; rw [Hq1.out, Hq2.out, Hq3.out, Hq4.out, Hq5.out, Hq6.out, Hq7.out, Hq8.out]; simp
                  have HV := Lib.hid hv
                  clear hv
                  go_wp21
                  go_ret
                  exact ⟨ret_bool HV.out.symm, f4⟩
                | true =>
                  have Hq8 : Hid ((l1 == k1) = true) := q8
                  cases q9 : (l2 == k2) with
                  | false =>
                    have Hq9 := Lib.hid q9
                    have hv : sameStateB i0 t0 l0 l1 l2 pl ql j0 u0 k0 k1 k2 pl2 ql2 = false := by unfold sameStateB; rw [Hq1.out, Hq2.out, Hq3.out, Hq4.out, Hq5.out, Hq6.out, Hq7.out, Hq8.out, Hq9.out]; simp
                    have HV := Lib.hid hv
                    clear hv
                    go_wp21
                    go_ret
                    exact ⟨ret_bool HV.out.symm, f4⟩
                  | true =>
                    have Hq9 : Hid ((l2 == k2) = true) := q9
                    have hv : sameStateB i0 t0 l0 l1 l2 pl ql j0 u0 k0 k1 k2 pl2 ql2 = true := by unfold sameStateB; rw [Hq1.out, Hq2.out, Hq3.out, Hq4.out, Hq5.out, Hq6.out, Hq7.out, Hq8.out, Hq9.out]; rfl
                    have HV := Lib.hid hv
                    clear hv
                    go_wp21
                    go_ret
                    exact ⟨ret_bool HV.out.symm, f4⟩
end Go.Proofs.Ytokklkmibjpjnaa
namespace Go.Proofs.Ytokklkmibjpjnaa
set_option linter.unusedSimpArgs false
set_option linter.unusedVariables false
attribute [local go_sem] n_lt2 n_lt3 n_lt4 n_le2 n_le3
open Go.RowKit

def pairsRowL (l : List Pr) : List Int := if pairsB l = true then (l.length : Int) :: PR l else []
theorem pairsRowL_len (l : List Pr) : (pairsRowL l).length ≤ 21 := by
  unfold pairsRowL
  split
  · rename_i h
    have := pairsB_len h
    simp [PR_len]; omega
  · simp
theorem cell_two_at (w : World) (x y : Value) (t : TypeId) (g : Nat) (hg : g = w.heap.size) : ∀ j u, [x, y][j]? = some u → (w.alloc (.cells #[x, y] t)).cell? ((⟨g, 0, none⟩ : Addr).add j) = some u := by
  subst hg
  exact cell_two_new w x y t
theorem PR_take {l : List Pr} {k : Nat} (h : k < l.length) : PR (l.take (k + 1)) = PR (l.take k) ++ [(l.getD k default).k, (l.getD k default).v] := by
  rw [List.take_add_one, PR_append]
  congr 1
  simp [PR, List.getD, h]
attribute [local go_sem] Ext.cell Ext.frozen

set_option maxRecDepth 100000 in
set_option maxHeartbeats 2000000 in
theorem putPairs_any (A : Option Addr) (n cap p n0 : Nat) (l : List Pr) (zs0 : List Int) (wb w : World) (hS : Sl wb 2 A n (PR l)) (hl : l.length = n) (hn : n ≤ 10) (hn0 : n0 ≤ 1000) (hB : Below wb.heap.size wb w) (hC : Cur w wb.heap.size p 2 53 n0 zs0) :
    Calls Try.prog 25 #[.pointer (some ⟨p, 0, none⟩), .slice A n cap] w fun e w' => e = .returned (.tuple #[]) ∧ Cur w' wb.heap.size p 2 53 (n0 + 1 + 2 * n) (zs0 ++ ((n : Int) :: PR l)) ∧ Below wb.heap.size wb w' := by
  have hL := Lib.hid hl
  have HS := Lib.hid hS
  have HC := Lib.hid hC
  clear hl hS hC
  go_enter Try.func25, Try.ntmps25
  go_wp2_with fail
  refine (put_any wb.heap.size p n0 1 1 zs0 [(n : Int)] _ _ (HC.out.alloc _) rfl (cell_one_new _ _ _) (by omega)).mono ?_
  rintro e w1 ⟨rfl, C1, b1⟩
  have f1 : Below wb.heap.size wb w1 := (hB.alloc hB.size _).trans b1
  have HC1 := Lib.hid C1
  clear C1 b1 HC
  go_wp2
  go_loopw [13] (fun i wr => ∃ k : Nat, k ≤ n ∧ i = .int .i64 k ∧ Below wb.heap.size wb wr ∧ Hid (Cur wr wb.heap.size p 2 53 (n0 + 1 + 2 * k) (zs0 ++ ((n : Int) :: PR (l.take k))))) (fun i _ => n - (intOf i).toNat)
  case atStart => exact ⟨0, Nat.zero_le _, rfl, f1, Lib.hid (by simpa [PR] using HC1.out)⟩
  case round =>
    obtain ⟨k, hk, rfl, hbl, hcu⟩ := hrel
    by_cases hlt : k < n
    · obtain ⟨b, off, rfl, hb, hcell⟩ := sl_pairs HS.out (by omega)
      have h0 := (hcell k hlt).1
      have h1 := (hcell k hlt).2
      clear hcell
      rw [← hbl.cell (by exact hb)] at h0 h1
      generalize hpp : l.getD k default = pp at h0 h1
      obtain ⟨x, y⟩ := pp
      simp only at h0 h1
      have HP := Lib.hid hpp
      clear hpp
      have hbr : b < wr.heap.size := Nat.lt_of_lt_of_le hb hbl.size
      have hkn : (k : Int) < (n : Int) := by omega
      go_wp2_with fail
      refine calls_named ?_
      rintro wq hwq
      have CQ : Cur wq wb.heap.size p 2 53 (n0 + 1 + 2 * k) (zs0 ++ ((n : Int) :: PR (l.take k))) := by rw [hwq]; exact (hcu.out.alloc _).alloc _
      have hnw : ∀ j u, (ints [x, y])[j]? = some u → wq.cell? ((⟨wr.heap.size + 1, 0, none⟩ : Addr).add j) = some u := by rw [hwq]; exact cell_two_at _ _ _ _ _ (by simp)
      have fq : Below wb.heap.size wb wq := by rw [hwq]; exact (hbl.alloc hbl.size _).alloc (by have := hbl.size; simp; omega) _
      clear hwq
      refine (put_any wb.heap.size p (n0 + 1 + 2 * k) 2 2 (zs0 ++ ((n : Int) :: PR (l.take k))) [x, y] _ wq CQ rfl hnw (by omega)).mono ?_
      rintro e w2 ⟨rfl, C2, b2⟩
      have f2 : Below wb.heap.size wb w2 := fq.trans b2
      have HC2 := Lib.hid C2
      clear C2 b2
      go_wp2
      refine ⟨⟨k + 1, by omega, by go_num, f2, Lib.hid ?_⟩, by simp [intOf]; omega⟩
      rw [PR_take (hL.out.symm ▸ hlt), HP.out]
      have := HC2.out
      rw [List.append_assoc, List.cons_append] at this
      exact this
    · have hkn : k = n := by omega
      subst hkn
      go_wp2
      go_end0
      have := hcu.out
      rw [List.take_of_length_le (by have := hL.out; omega)] at this
      exact ⟨rfl, this, hbl⟩
end Go.Proofs.Ytokklkmibjpjnaa
namespace Go.Proofs.Ytokklkmibjpjnaa
set_option linter.unusedSimpArgs false
set_option linter.unusedVariables false
attribute [local go_sem] n_lt2 n_lt3 n_lt4 n_le2 n_le3
open Go.RowKit
attribute [local go_sem] Ext.cell Ext.frozen

def leaseRowL (h e u : Int) : List Int := if leaseB h e u = true then [h, e, u] else []
theorem leaseRowL_len (h e u : Int) : (leaseRowL h e u).length ≤ 3 := by unfold leaseRowL; split <;> simp
def rowLeaseL (zs : List Int) : (Int × Int × Int) × Bool :=
  if zs.length = 3 then (if leaseB (zs.getD 0 0) (zs.getD 1 0) (zs.getD 2 0) = true then ((zs.getD 0 0, zs.getD 1 0, zs.getD 2 0), true) else ((0, 0, 0), false)) else ((0, 0, 0), false)
/-- What RowLease hands back. -/
def RetLease (w : World) (g : (Int × Int × Int) × Bool) (e : Ending) (w' : World) : Prop := e = .returned (.tuple #[.agg #[.int .i64 g.1.1, .int .i64 g.1.2.1, .int .i64 g.1.2.2], .bool g.2]) ∧ Below w.heap.size w w'

theorem row3 {w : World} {g lo : Nat} {E : TypeId} {a b c : Int} (h : Blk w g E #[.int .i64 a, .int .i64 b, .int .i64 c]) (hlo : lo ≤ g) : Row w lo E 1 (some ⟨g, 0, none⟩) 3 3 [a, b, c] :=
  h.row hlo (by simp [maxLen]) rfl rfl (fun j hj => by rcases (by omega : j = 0 ∨ j = 1 ∨ j = 2) with rfl | rfl | rfl <;> rfl)
theorem row0 {w : World} {g lo : Nat} {E : TypeId} (h : Blk w g E #[]) (hlo : lo ≤ g) : Row w lo E 1 (some ⟨g, 0, none⟩) 0 0 [] :=
  h.row hlo (by simp [maxLen]) rfl rfl (fun j hj => absurd hj (by omega))

end Go.Proofs.Ytokklkmibjpjnaa
namespace Go.Proofs.Ytokklkmibjpjnaa
set_option linter.unusedSimpArgs false
set_option linter.unusedVariables false
attribute [local go_sem] n_lt2 n_lt3 n_lt4 n_le2 n_le3
open Go.RowKit
def stateNumL (i0 t0 l0 l1 l2 : Int) (pl : List Pr) (ql : List Jb) : List Int := if stateB i0 t0 l0 l1 l2 pl ql = true then [i0, t0] ++ ((pl.length : Int) :: PR pl) ++ ((ql.length : Int) :: JB ql) ++ [l0, l1, l2] else []
theorem stateB_parts {i0 t0 l0 l1 l2 : Int} {pl : List Pr} {ql : List Jb} (h : stateB i0 t0 l0 l1 l2 pl ql = true) : pairsB pl = true ∧ jobsB ql = true ∧ leaseB l0 l1 l2 = true := by
  unfold stateB at h
  simp only [Bool.and_eq_true] at h
  exact ⟨h.2.2.1, h.2.2.2.1, h.2.2.2.2.1⟩
theorem jobsB_le8 {l : List Jb} (h : jobsB l = true) : l.length ≤ 8 := by
  unfold jobsB at h
  simp only [Bool.and_eq_true, decide_eq_true_eq] at h
  exact h.1
theorem retRow_eq {w w' : World} {E s : Nat} {zs ys : List Int} {e : Ending} (h : ys = zs) (hr : RetRow w E s zs.length zs e w') : RetRow w E s ys.length ys e w' := by subst h; exact hr
theorem stateNumL_len (i0 t0 l0 l1 l2 : Int) (pl : List Pr) (ql : List Jb) : (stateNumL i0 t0 l0 l1 l2 pl ql).length ≤ 67 := by
  unfold stateNumL
  split
  · rename_i h
    have h1 := pairsB_len (stateB_parts h).1
    have h2 := jobsB_le8 (stateB_parts h).2.1
    simp only [List.length_append, List.length_cons, List.length_nil, PR_len, JB_len]
    omega
  · simp
theorem row2i {w : World} {g lo : Nat} {E : TypeId} {a b : Int} (h : Blk w g E #[.int .i64 a, .int .i64 b]) (hlo : lo ≤ g) : Row w lo E 1 (some ⟨g, 0, none⟩) 2 2 [a, b] :=
  h.row hlo (by simp [maxLen]) rfl rfl (fun j hj => by rcases (by omega : j = 0 ∨ j = 1) with rfl | rfl <;> rfl)
theorem cell_three_at (w : World) (x y z : Value) (t : TypeId) (g : Nat) (hg : g = w.heap.size) : ∀ j u, [x, y, z][j]? = some u → (w.alloc (.cells #[x, y, z] t)).cell? ((⟨g, 0, none⟩ : Addr).add j) = some u := by
  intro j u hj
  subst hg
  match j, hj with
  | 0, hj => simp at hj; subst hj; simp [Addr.add]
  | 1, hj => simp at hj; subst hj; simp [Addr.add]
  | 2, hj => simp at hj; subst hj; simp [Addr.add]
theorem row_some {w : World} {lo : Nat} {e : TypeId} {s : Nat} {A : Option Addr} {n cap : Nat} {zs : List Int} (h : Row w lo e s A n cap zs) (hn : 0 < n) : ∃ ad, A = some ad := by
  obtain ⟨g, cs, hA, _⟩ := h.blk hn
  exact ⟨_, hA⟩
attribute [local go_sem] Ext.cell Ext.frozen
set_option maxRecDepth 100000 in
set_option maxHeartbeats 4000000 in
theorem stateNumbers_any (A : Option Addr) (n c : Nat) (B : Option Addr) (m d : Nat) (i0 t0 l0 l1 l2 : Int) (pl : List Pr) (ql : List Jb) (w : World) (hP : Sl w 2 A n (PR pl)) (hQ : Sl w 5 B m (JB ql)) (hl : pl.length = n) (hr : ql.length = m) (hn : n ≤ maxLen) (hm : m ≤ maxLen) :
    Calls Try.prog 7 #[.agg #[.int .i64 i0, .int .i64 t0, .slice A n c, .slice B m d, .int .i64 l0, .int .i64 l1, .int .i64 l2]] w (RetRow w 2 1 (stateNumL i0 t0 l0 l1 l2 pl ql).length (stateNumL i0 t0 l0 l1 l2 pl ql)) := by
  have hL := Lib.hid hl
  have hR := Lib.hid hr
  have HP := Lib.hid hP
  have HQ := Lib.hid hQ
  clear hP hQ hl hr
  have hls := Lib.hid (stateNumL_len i0 t0 l0 l1 l2 pl ql)
  go_enter Try.func7, Try.ntmps7
  go_wp2_with fail
  refine calls_named ?_
  rintro v0 hv0
  have f0 : Below w.heap.size w v0 := by rw [hv0]; (repeat' (first | (with_reducible exact Below.refl _ _) | (with_reducible assumption) | (with_reducible refine Below.alloc ?_ ?_ _) | (with_reducible refine Below.drew ?_) | (with_reducible refine Below.setCell ?_ ?_ _) | (with_reducible refine bstep (by assumption) ?_ ?_) | (with_reducible exact Nat.le_refl _) | omega | (simp [*]; done) | (simp [*]; omega)))
  have z0 : w.heap.size + 1 ≤ v0.heap.size := by rw [hv0]; simp [size_set]
  have HP_0 := Lib.hid (HP.out.below f0)
  have HP_lt := Lib.hid (fun hn => HP.out.lt hn)
  have HQ_0 := Lib.hid (HQ.out.below f0)
  have HQ_lt := Lib.hid (fun hn => HQ.out.lt hn)
  have Ha_0 : Hid (Blk v0 w.heap.size 29 #[.int .i64 i0, .int .i64 t0, .slice A n c, .slice B m d, .int .i64 l0, .int .i64 l1, .int .i64 l2]) := by rw [hv0]; exact Blk.new_at _ _ _ _ (by simp)
  clear hv0
  have lt_a := Ha_0.out.lt
  obtain ⟨r_a0, r_a1, r_a2, r_a3, r_a4, r_a5, r_a6⟩ := bc7 Ha_0.out
  have cc := stateOk_any A n c B m d i0 t0 l0 l1 l2 pl ql v0 HP_0.out HQ_0.out hL.out hR.out hn hm
  cases q1 : stateB i0 t0 l0 l1 l2 pl ql with
  | false =>
    have hv : stateNumL i0 t0 l0 l1 l2 pl ql = [] := by unfold stateNumL; rw [q1]; rfl
    rw [q1] at cc
    have HV := Lib.hid hv
    clear hv q1
    refine (cc).mono ?_
    rintro e v1 ⟨rfl, b1⟩
    have f1 := bthen f0 b1
    have z1 := b1.size
    have HP_1 := Lib.hid (HP_0.out.below b1)
    have HQ_1 := Lib.hid (HQ_0.out.below b1)
    have Ha_1 := Lib.hid (Ha_0.out.below b1)
    clear lt_a r_a0 r_a1 r_a2 r_a3 r_a4 r_a5 r_a6
    clear HP_0 HQ_0 Ha_0
    have lt_a := Ha_1.out.lt
    obtain ⟨r_a0, r_a1, r_a2, r_a3, r_a4, r_a5, r_a6⟩ := bc7 Ha_1.out
    go_wp2
    go_ret
    exact retRow_eq HV.out (RetRow.mk (Row.nil _ _ _ _) f1)
  | true =>
    have hv : stateNumL i0 t0 l0 l1 l2 pl ql = [i0, t0] ++ ((n : Int) :: PR pl) ++ ((m : Int) :: JB ql) ++ [l0, l1, l2] := by unfold stateNumL; rw [if_pos q1, hL.out, hR.out]
    rw [q1] at cc
    have HV := Lib.hid hv
    obtain ⟨hpa, hja, hle⟩ := stateB_parts q1
    have hn10 : n ≤ 10 := by have := pairsB_len hpa; have := hL.out; omega
    have hm8 : m ≤ 8 := by have := jobsB_le8 hja; have := hR.out; omega
    have HPA := Lib.hid hpa
    have HJA := Lib.hid hja
    have HLE := Lib.hid hle
    clear hv q1 hpa hja hle
    refine (cc).mono ?_
    rintro e v1 ⟨rfl, b1⟩
    have f1 := bthen f0 b1
    have z1 := b1.size
    have HP_1 := Lib.hid (HP_0.out.below b1)
    have HQ_1 := Lib.hid (HQ_0.out.below b1)
    have Ha_1 := Lib.hid (Ha_0.out.below b1)
    clear lt_a r_a0 r_a1 r_a2 r_a3 r_a4 r_a5 r_a6
    clear HP_0 HQ_0 Ha_0
    have lt_a := Ha_1.out.lt
    obtain ⟨r_a0, r_a1, r_a2, r_a3, r_a4, r_a5, r_a6⟩ := bc7 Ha_1.out
    clear cc
    have hlen : ([i0, t0] ++ ((n : Int) :: PR pl) ++ ((m : Int) :: JB ql) ++ [l0, l1, l2]).length = 2 + (1 + 2 * n) + (1 + 5 * m) + 3 := by
      simp only [List.length_append, List.length_cons, List.length_nil, PR_len, JB_len, hL.out, hR.out]; omega
    have HLEN := Lib.hid hlen
    clear hlen
    have Ha1 := Ha_1
    clear Ha_1
    have w1 : w.heap.size < v1.heap.size := Ha1.out.lt
    go_wp2_with fail
    refine calls_named ?_
    rintro v2 hv2
    have B2 : Below v1.heap.size v1 v2 := by rw [hv2]; (repeat' (first | (with_reducible exact Below.refl _ _) | (with_reducible assumption) | (with_reducible refine Below.alloc ?_ ?_ _) | (with_reducible refine Below.drew ?_) | (with_reducible refine Below.setCell ?_ ?_ _) | (with_reducible refine bstep (by assumption) ?_ ?_) | (with_reducible exact Nat.le_refl _) | omega | (simp [*]; done) | (simp [*]; omega)))
    have C2 := Lib.hid (show Cur v2 v1.heap.size v1.heap.size 2 53 0 [] by rw [hv2]; exact Cur.alloc ⟨none, 0, Blk.new _ _ _, Row.nil _ _ _ _, by simp, Nat.le_refl _⟩ _)
    have N2 := Lib.hid (show ∀ j u, (ints [i0, t0])[j]? = some u → v2.cell? ((⟨v1.heap.size + 1, 0, none⟩ : Addr).add j) = some u by rw [hv2]; exact cell_two_at _ _ _ _ _ (by simp))
    clear hv2
    clear lt_a r_a0 r_a1 r_a2 r_a3 r_a4 r_a5 r_a6
    refine (put_any v1.heap.size v1.heap.size 0 2 2 [] [i0, t0] _ v2 C2.out rfl N2.out (by omega)).mono ?_
    rintro e v3 ⟨rfl, C3, b3⟩
    have B3 := B2.trans b3
    have HC3 := Lib.hid C3
    clear C3 C2 N2
    have Hc_3 := Ha1.out.below B3
    have lt_c := Hc_3.lt
    obtain ⟨r_c0, r_c1, r_c2, r_c3, r_c4, r_c5, r_c6⟩ := bc7 Hc_3
    clear Hc_3
    go_wp2_with fail
    refine (putPairs_any A n c v1.heap.size (0 + 2) pl ([] ++ [i0, t0]) v1 v3 HP_1.out hL.out hn10 (by omega) B3 HC3.out).mono ?_
    rintro e v4 ⟨rfl, C4, B4⟩
    have HC4 := Lib.hid C4
    clear C4 HC3
    clear lt_c r_c0 r_c1 r_c2 r_c3 r_c4 r_c5 r_c6
    have Hc_4 := Ha1.out.below B4
    have lt_c := Hc_4.lt
    obtain ⟨r_c0, r_c1, r_c2, r_c3, r_c4, r_c5, r_c6⟩ := bc7 Hc_4
    clear Hc_4
    go_wp2_with fail
    refine (putJobs_any B m d v1.heap.size (0 + 2 + 1 + 2 * n) ql ([] ++ [i0, t0] ++ ((n : Int) :: PR pl)) v1 v4 HQ_1.out hR.out (by omega) (by omega) B4 HC4.out).mono ?_
    rintro e v5 ⟨rfl, C5, B5⟩
    have HC5 := Lib.hid C5
    clear C5 HC4
    clear lt_c r_c0 r_c1 r_c2 r_c3 r_c4 r_c5 r_c6
    have Hc_5 := Ha1.out.below B5
    have lt_c := Hc_5.lt
    obtain ⟨r_c0, r_c1, r_c2, r_c3, r_c4, r_c5, r_c6⟩ := bc7 Hc_5
    clear Hc_5
    go_wp2_with fail
    refine calls_named ?_
    rintro v6 hv6
    have B6 : Below v1.heap.size v1 v6 := by rw [hv6]; exact B5.alloc B5.size _
    have N6 := Lib.hid (show ∀ j u, (ints [l0, l1, l2])[j]? = some u → v6.cell? ((⟨v5.heap.size, 0, none⟩ : Addr).add j) = some u by rw [hv6]; exact cell_three_at _ _ _ _ _ _ rfl)
    have C6 := Lib.hid (HC5.out.alloc (.cells #[.int .i64 l0, .int .i64 l1, .int .i64 l2] 2))
    rw [← hv6] at C6
    clear hv6 HC5
    clear lt_c r_c0 r_c1 r_c2 r_c3 r_c4 r_c5 r_c6
    refine (put_any v1.heap.size v1.heap.size (0 + 2 + 1 + 2 * n + 1 + 5 * m) 3 3 _ [l0, l1, l2] _ v6 C6.out rfl N6.out (by omega)).mono ?_
    rintro e v7 ⟨rfl, C7, b7⟩
    have B7 := B6.trans b7
    obtain ⟨K, hK⟩ : ∃ K, K = 0 + 2 + 1 + 2 * n + 1 + 5 * m + 3 := ⟨_, rfl⟩
    rw [← hK] at C7
    have HK := Lib.hid hK
    clear hK C6 N6
    obtain ⟨A7, c7, K7, R7, hne7, hlo7⟩ := C7
    have q0 : v7.cell? ⟨v1.heap.size, 0, none⟩ = some (.slice A7 K c7) := K7.cell 0
    have hlt7 := K7.lt
    have R7h := Lib.hid R7
    clear K7 R7 hne7 hlo7 b7
    have Hc_7 := Ha1.out.below B7
    have lt_c := Hc_7.lt
    obtain ⟨r_c0, r_c1, r_c2, r_c3, r_c4, r_c5, r_c6⟩ := bc7 Hc_7
    clear Hc_7
    go_wp2
    go_ret
    obtain rfl : K = ([i0, t0] ++ ((n : Int) :: PR pl) ++ ((m : Int) :: JB ql) ++ [l0, l1, l2]).length := by have := HK.out; have := HLEN.out; omega
    exact retRow_eq HV.out (RetRow.mk (R7h.out.mono (Nat.le_of_lt w1)) (bthen f1 B7))
end Go.Proofs.Ytokklkmibjpjnaa
namespace Go.Proofs.Ytokklkmibjpjnaa
set_option linter.unusedSimpArgs false
set_option linter.unusedVariables false
attribute [local go_sem] n_lt2 n_lt3 n_lt4 n_le2 n_le3
open Go.RowKit
structure Stt where
  i : Int
  t : Int
  p : List Pr
  q : List Jb
  h : Int
  e : Int
  u : Int
def Stt.zero : Stt := ⟨0, 0, [], [], 0, 0, 0⟩
def stOk (s : Stt) : Bool := stateB s.i s.t s.h s.e s.u s.p s.q
def numRow (s : Stt) : List Int := [s.i, s.t] ++ ((s.p.length : Int) :: PR s.p) ++ ((s.q.length : Int) :: JB s.q) ++ [s.h, s.e, s.u]
theorem numRow_len (s : Stt) : (numRow s).length = 7 + 2 * s.p.length + 5 * s.q.length := by
  unfold numRow
  simp only [List.length_append, List.length_cons, List.length_nil, PR_len, JB_len]
  omega
theorem PR_inj' {a b : List Pr} (h : PR a = PR b) : a = b := PR_inj h
theorem numRow_inj {a b : Stt} (h : numRow a = numRow b) : a = b := by
  obtain ⟨ai, at_, ap, aq, ah, ae, au⟩ := a
  obtain ⟨bi, bt, bp, bq, bh, be, bu⟩ := b
  unfold numRow at h
  simp only [List.cons_append, List.nil_append, List.append_assoc] at h
  injection h with h1 h
  injection h with h2 h
  injection h with h3 h
  have h3' : ap.length = bp.length := by omega
  obtain ⟨h4, h⟩ := List.append_inj h (by rw [PR_len, PR_len, h3'])
  injection h with h5 h
  have h5' : aq.length = bq.length := by omega
  obtain ⟨h6, h⟩ := List.append_inj h (by rw [JB_len, JB_len, h5'])
  injection h with h7 h
  injection h with h8 h
  injection h with h9 h
  have h4' := PR_inj h4
  have h6' := JB_inj h6
  subst h1 h2 h4' h6' h7 h8 h9
  rfl
open Classical in
noncomputable def numR (zs : List Int) : Stt × Bool := if h : ∃ s, zs = numRow s ∧ stOk s = true then (h.choose, true) else (Stt.zero, false)
theorem numR_yes {zs : List Int} {s : Stt} (h : zs = numRow s) (hs : stOk s = true) : numR zs = (s, true) := by
  unfold numR
  have he : ∃ s, zs = numRow s ∧ stOk s = true := ⟨s, h, hs⟩
  rw [dif_pos he, numRow_inj (he.choose_spec.1.symm.trans h)]
theorem numR_no {zs : List Int} (h : ∀ s, zs = numRow s → stOk s = false) : numR zs = (Stt.zero, false) := by
  unfold numR
  rw [dif_neg (fun he => by
    obtain ⟨s, h1, h2⟩ := he
    rw [h s h1] at h2
    exact absurd h2 (by decide))]
/-- The row has the shape of a state's numbers, with p pairs and q jobs. -/
structure Shape (zs : List Int) (p q : Nat) : Prop where
  p10 : p ≤ 10
  q8 : q ≤ 8
  len : zs.length = 7 + 2 * p + 5 * q
  hp : zs.getD 2 0 = (p : Int)
  hq : zs.getD (3 + 2 * p) 0 = (q : Int)
theorem stOk_parts {s : Stt} (h : stOk s = true) : s.p.length ≤ 10 ∧ s.q.length ≤ 8 := by
  have := stateB_parts h
  exact ⟨pairsB_len this.1, jobsB_le8 this.2.1⟩
theorem drop_cons {zs : List Int} {k : Nat} (h : k < zs.length) : zs.drop k = zs.getD k 0 :: zs.drop (k + 1) := by
  rw [List.drop_eq_getElem_cons h]
  simp [List.getD, List.getElem?_eq_getElem h]
theorem shape_row {zs : List Int} {p q : Nat} (h : Shape zs p q) : ∃ s : Stt, zs = numRow s ∧ s.p.length = p ∧ s.q.length = q ∧ s.i = zs.getD 0 0 ∧ s.t = zs.getD 1 0 ∧ (zs.drop 3).take (2 * p) = PR s.p ∧ (zs.drop (4 + 2 * p)).take (5 * q) = JB s.q ∧ zs.drop (4 + 2 * p + 5 * q) = [s.h, s.e, s.u] := by
  obtain ⟨h1, h2, hl, hp, hq⟩ := h
  obtain ⟨pl, hpl, hps⟩ := PR_of p ((zs.drop 3).take (2 * p)) (by simp; omega)
  obtain ⟨ql, hql, hqs⟩ := JB_of q ((zs.drop (4 + 2 * p)).take (5 * q)) (by simp; omega)
  obtain ⟨x, y, z, hx⟩ : ∃ x y z, zs.drop (4 + 2 * p + 5 * q) = [x, y, z] := by
    have : (zs.drop (4 + 2 * p + 5 * q)).length = 3 := by simp; omega
    match zs.drop (4 + 2 * p + 5 * q), this with
    | [x, y, z], _ => exact ⟨x, y, z, rfl⟩
  refine ⟨⟨zs.getD 0 0, zs.getD 1 0, pl, ql, x, y, z⟩, ?_, hpl, hql, rfl, rfl, hps.symm, hqs.symm, hx⟩
  unfold numRow
  simp only [hpl, hql]
  have a0 : zs = zs.drop 0 := by simp
  have a3 : zs.drop 3 = PR pl ++ zs.drop (3 + 2 * p) := by
    rw [hps]
    conv => lhs; rw [← List.take_append_drop (2 * p) (zs.drop 3)]
    rw [List.drop_drop]
  have a4 : zs.drop (4 + 2 * p) = JB ql ++ [x, y, z] := by
    rw [hqs, ← hx]
    conv => lhs; rw [← List.take_append_drop (5 * q) (zs.drop (4 + 2 * p))]
    rw [List.drop_drop]
  conv => lhs; rw [a0, drop_cons (by omega : 0 < zs.length), drop_cons (by omega : 0 + 1 < zs.length), drop_cons (by omega : 0 + 1 + 1 < zs.length), show 0 + 1 + 1 + 1 = 3 from rfl, a3, drop_cons (by omega : 3 + 2 * p < zs.length), hq, show 3 + 2 * p + 1 = 4 + 2 * p by omega, a4]
  simp only [Nat.zero_add, Nat.reduceAdd, hp, List.cons_append, List.nil_append, List.append_assoc]
theorem shape_of {s : Stt} (h : stOk s = true) : Shape (numRow s) s.p.length s.q.length := by
  obtain ⟨h1, h2⟩ := stOk_parts h
  refine ⟨h1, h2, numRow_len s, ?_, ?_⟩
  · unfold numRow; simp
  · unfold numRow
    simp only [List.cons_append, List.nil_append, List.append_assoc]
    rw [show 3 + 2 * s.p.length = (PR s.p).length + 1 + 1 + 1 by rw [PR_len]; omega]
    simp [List.getD]
theorem numR_shapeless {zs : List Int} (h : ∀ p q, ¬ Shape zs p q) : numR zs = (Stt.zero, false) := numR_no fun s hs => by
  cases hb : stOk s with
  | false => rfl
  | true =>
    have := shape_of hb
    rw [← hs] at this
    exact absurd this (h _ _)
theorem numR_at {zs : List Int} {s : Stt} (h : zs = numRow s) : numR zs = if stOk s then (s, true) else (Stt.zero, false) := by
  cases hb : stOk s with
  | true => rw [numR_yes h hb]; rfl
  | false =>
    rw [numR_no (fun s' h' => by rw [← numRow_inj (h.symm.trans h')]; exact hb)]
    rfl
theorem numR_len (zs : List Int) : (numR zs).1.p.length ≤ 10 ∧ (numR zs).1.q.length ≤ 8 := by
  by_cases h : ∃ s, zs = numRow s ∧ stOk s = true
  · obtain ⟨s, h1, h2⟩ := h
    rw [numR_yes h1 h2]
    exact stOk_parts h2
  · rw [numR_no (fun s hs => by
      cases hb : stOk s with
      | false => rfl
      | true => exact absurd ⟨s, hs, hb⟩ h)]
    exact ⟨by decide, by decide⟩
end Go.Proofs.Ytokklkmibjpjnaa
namespace Go.Proofs.Ytokklkmibjpjnaa
set_option linter.unusedSimpArgs false
set_option linter.unusedVariables false
attribute [local go_sem] n_lt2 n_lt3 n_lt4 n_le2 n_le3
open Go.RowKit
theorem PR_take2 {l : List Pr} {k : Nat} (h : k < l.length) : PR (l.take (k + 1)) = PR (l.take k) ++ [(l.getD k default).k, (l.getD k default).v] := by
  rw [List.take_add_one, PR_append]
  congr 1
  simp [PR, List.getD, h]
theorem row_get {a : Int} {l : List Pr} {k q : Nat} (hq : q = 1 + 2 * k) (h : k < l.length) : (a :: PR l).getD q 0 = (l.getD k default).k ∧ (a :: PR l).getD (q + 1) 0 = (l.getD k default).v := by
  subst hq
  constructor
  · rw [show 1 + 2 * k = k * 2 + 1 by omega, List.getD_cons_succ, PR_get0 l k h]
  · rw [show 1 + 2 * k + 1 = (k * 2 + 1) + 1 by omega, List.getD_cons_succ, PR_get1 l k h]
def rowGood (a : Int) (l : List Pr) : Bool := decide (a = (l.length : Int)) && pairsB l
def rowSel (a : Int) (l : List Pr) : List Pr := if rowGood a l = true then l else []
attribute [local go_sem] Ext.cell Ext.frozen

end Go.Proofs.Ytokklkmibjpjnaa
namespace Go.Proofs.Ytokklkmibjpjnaa
set_option linter.unusedSimpArgs false
set_option linter.unusedVariables false
attribute [local go_sem] n_lt2 n_lt3 n_lt4 n_le2 n_le3
open Go.RowKit
attribute [local go_sem] Ext.cell Ext.frozen

theorem PR_cell (l : List Pr) (k t : Nat) (h : k < l.length) (ht : t < 2) : (PR l).getD (k * 2 + t) 0 = [(l.getD k default).k, (l.getD k default).v].getD t 0 := by
  rcases (by omega : t = 0 ∨ t = 1) with rfl | rfl
  · exact PR_get0 l k h
  · exact PR_get1 l k h
theorem takePairs_no (p n cap at_ : Nat) (A : Option Addr) (zs : List Int) (w : World) (K : RCur w p 53 A n cap at_) (hS : Sl w 1 A n zs) (hn : n ≤ 1048576) (hc : n ≤ cap) (hcm : cap ≤ maxLen) (hat : at_ ≤ n) (hAp : ∀ a, A = some a → a.block ≠ p)
    (hno : at_ < n → ¬ (0 ≤ zs.getD at_ 0 ∧ zs.getD at_ 0 ≤ 10 ∧ zs.getD at_ 0 * 2 + at_ + 1 ≤ n)) :
    Calls Try.prog 20 #[.pointer (some ⟨p, 0, none⟩)] w (TakeNo p 53 A n cap w) := by
  rcases Nat.lt_or_ge at_ n with hlt | hge
  · obtain ⟨b, off, rfl, hb, hcell⟩ := hS.at_ (by omega)
    have hx := hcell at_ (by omega)
    have hno := hno hlt
    have hbp : b ≠ p := hAp _ rfl
    have c1 := next_yes p n cap at_ b off _ w K hx hlt (by unfold maxLen; omega) hbp
    generalize zs.getD at_ 0 = x at hno c1
    clear hx hcell hS
    by_cases hin : inB x 0 10 = true
    · have hi := (inB_iff _ _ _).1 hin
      have hmul : IntKind.i64.wrap (2 * x) = 2 * x := by simp [IntKind.wrap, IntKind.bits, IntKind.signed]; omega
      have hbig : ¬ (x * 2 + at_ + 1 ≤ n) := fun h => hno ⟨hi.1, hi.2, h⟩
      clear hno
      go_enter Try.func20, Try.ntmps20
      go_wp2_with fail
      refine c1.mono ?_
      rintro e w1 ⟨rfl, K1, W1⟩
      go_wp2_with ((go_at_call 57; refine (between_any _ _ _ _).mono ?_; rintro e w' ⟨rfl, rfl⟩))
      refine (take_no p n cap (at_ + 1) _ _ w1 K1 (by unfold maxLen; omega) (by omega) (by omega)).mono ?_
      rintro e w2 ⟨rfl, K2, W2⟩
      have hl2 := K2.blk.lt
      go_wp2
      go_loop [6, 8] (fun pt lv => pt = .slice none 0 0 ∧ lv = .slice (some ⟨w2.heap.size, 0, none⟩) 0 0) (fun _ _ => 0)
      case atStart => exact ⟨rfl, rfl⟩
      case round =>
        obtain ⟨rfl, rfl⟩ := hrel
        go_wp2
        refine bodyPost_ret (v := .tuple #[.slice (some ⟨w2.heap.size, 0, none⟩) 0 0, .bool false]) (by simp [results, Try.results20, go_sem, *]) rfl ⟨_, _, _, at_ + 1, rfl, by omega, K2.blk.alloc _, ?_⟩
        exact wrote_then (wrote_trans W1 W2) ((Below.refl _ _).alloc (Nat.le_refl _) _)
    · have hin' : inB x 0 10 = false := by simpa using hin
      clear hno hin
      go_enter Try.func20, Try.ntmps20
      go_wp2_with fail
      refine c1.mono ?_
      rintro e w1 ⟨rfl, K1, W1⟩
      go_wp2_with ((go_at_call 57; refine (between_any _ _ _ _).mono ?_; rintro e w' ⟨rfl, rfl⟩))
      refine bodyPost_ret (v := .tuple #[.slice none 0 0, .bool false]) (by simp [results, Try.results20, go_sem, *]) rfl ⟨_, _, _, at_ + 1, rfl, by omega, K1, W1⟩
  · obtain rfl : at_ = n := by omega
    clear hno hS
    go_enter Try.func20, Try.ntmps20
    go_wp2_with fail
    refine (next_no p at_ cap A w K (by unfold maxLen; omega)).mono ?_
    rintro e w1 ⟨rfl, K1, W1⟩
    go_wp2
    refine bodyPost_ret (v := .tuple #[.slice none 0 0, .bool false]) (by simp [results, Try.results20, go_sem, *]) rfl ⟨_, _, _, at_, rfl, by omega, K1, W1⟩
set_option maxRecDepth 100000 in
set_option maxHeartbeats 2000000 in
theorem takePairs_yes (p n cap at_ m : Nat) (b off : Nat) (zs : List Int) (l : List Pr) (w : World) (K : RCur w p 53 (some ⟨b, off, none⟩) n cap at_) (hS : Sl w 1 (some ⟨b, off, none⟩) n zs) (hn : n ≤ 1048576) (hc : n ≤ cap) (hcm : cap ≤ maxLen) (hbp : b ≠ p)
    (hm : m ≤ 10) (hx : zs.getD at_ 0 = (m : Int)) (hfit : at_ + 1 + 2 * m ≤ n) (hl : l.length = m) (hseg : (zs.drop (at_ + 1)).take (2 * m) = PR l) :
    Calls Try.prog 20 #[.pointer (some ⟨p, 0, none⟩)] w (TakeYes p 53 82 2 (some ⟨b, off, none⟩) n cap (at_ + 1 + 2 * m) m (PR l) w) := by
  obtain ⟨b', off', hA, hb, hcell⟩ := hS.at_ (by omega)
  injection hA with hA
  injection hA with hA1 hA2
  subst hA1 hA2
  have hxc := hcell at_ (by omega)
  rw [hx] at hxc
  have c1 := next_yes p n cap at_ b off _ w K hxc (by omega) (by unfold maxLen; omega) hbp
  have HS := Lib.hid hS
  have HL := Lib.hid hl
  have HG := Lib.hid hseg
  have hin : inB (m : Int) 0 10 = true := (inB_iff _ _ _).2 ⟨by omega, by omega⟩
  have hmul : IntKind.i64.wrap (2 * (m : Int)) = 2 * (m : Int) := by simp [IntKind.wrap, IntKind.bits, IntKind.signed]; omega
  clear hx hxc hcell hS hl hseg K
  go_enter Try.func20, Try.ntmps20
  go_wp2_with fail
  refine c1.mono ?_
  rintro e w1 ⟨rfl, K1, W1⟩
  go_wp2_with ((go_at_call 57; refine (between_any _ _ _ _).mono ?_; rintro e w' ⟨rfl, rfl⟩))
  have S1 := HS.out.wrote W1 (fun _ a c ha hcc => by
    obtain rfl := Option.some.inj ha
    obtain rfl := Option.some.inj hcc
    exact hbp)
  refine (take_all p n cap (at_ + 1) (2 * m) b off _ zs w1 K1 S1 hn hc hcm (by omega) hbp (by omega)).mono ?_
  rintro e w2 ⟨A', c', rfl, R2, K2, W2⟩
  rw [HG.out] at R2
  have hp2 := K2.blk.lt
  obtain ⟨g, HP⟩ : ∃ g, Hid (0 < m → A' = some ⟨g, 0, none⟩ ∧ g < w2.heap.size ∧ ∀ k q, q = 2 * k → k < m → w2.cell? ⟨g, q, none⟩ = some (.int .i64 (l.getD k default).k) ∧ w2.cell? ⟨g, q + 1, none⟩ = some (.int .i64 (l.getD k default).v)) := by
    rcases Nat.eq_zero_or_pos m with h0 | h0
    · exact ⟨0, fun h => absurd h (by omega)⟩
    · obtain ⟨g, cs, rfl, hlo, hblk, _, _, _, hj⟩ := R2.blk (by omega)
      refine ⟨g, fun _ => ⟨rfl, hblk.lt, fun k q hq hk => ?_⟩⟩
      subst hq
      have hg : ∀ t, t < 2 → w2.cell? ⟨g, 2 * k + t, none⟩ = some (.int .i64 ([(l.getD k default).k, (l.getD k default).v].getD t 0)) := fun t ht => by
        rw [hblk.cell, hj _ (by omega), Nat.mul_comm 2 k, PR_cell l k t (HL.out.symm ▸ hk) ht]
      exact ⟨hg 0 (by decide), hg 1 (by decide)⟩
  have hcap : 2 * m ≤ c' ∧ c' ≤ maxLen := R2.cap_le
  have HC := Lib.hid hcap
  have HK2 := Lib.hid K2
  have HW := Lib.hid (And.intro W1.size W2.size)
  have HW2 := Lib.hid (wrote_trans W1 W2)
  obtain ⟨r0, hr0⟩ : ∃ r0, r0 = 2 * m := ⟨_, rfl⟩
  rw [← hr0]
  have HR := Lib.hid hr0
  have hrb : r0 ≤ 1000 := by omega
  clear hcap K1 K2 W1 W2 S1 c1 R2 hr0
  go_wp2
  go_loopw [6, 8] (fun pt lv wr => ∃ k P r c A0 c0, k ≤ m ∧ r ≤ 1000 ∧ Hid (r + 2 * k = 2 * m) ∧ Hid (c + 2 * k = c') ∧ Hid (k < m → P = some ⟨g, 2 * k, none⟩) ∧ pt = .slice P r c ∧ lv = .slice A0 k c0 ∧ Row wr w2.heap.size 82 2 A0 k c0 (PR (l.take k)) ∧ Below w2.heap.size w2 wr) (fun pt _ _ => slen pt)
  case atStart => exact ⟨0, A', r0, c', _, _, by omega, hrb, Lib.hid (by have := HR.out; omega), Lib.hid (by omega), Lib.hid (fun h => by rw [(HP.out h).1, Nat.mul_zero]), rfl, rfl, row0p (Blk.new w2 _ _) (Nat.le_refl _), (Below.refl _ _).alloc (Nat.le_refl _) _⟩
  case round =>
    obtain ⟨k, P, r, c, A0, c0, hk, hrb, hr, hcc, hP, rfl, rfl, R, hbl⟩ := hrel
    by_cases hlt : k < m
    · obtain ⟨o, ho⟩ : ∃ o, o = 2 * k := ⟨_, rfl⟩
      have hP' := hP.out hlt
      rw [← ho] at hP'
      subst hP'
      obtain ⟨h0, h1⟩ := (HP.out (by omega)).2.2 k o ho hlt
      have hgl := (HP.out (by omega)).2.1
      have HO := Lib.hid ho
      clear ho hP
      rw [← hbl.cell (by exact hgl)] at h0 h1
      generalize hp : l.getD k default = pp at h0 h1
      obtain ⟨x0, x1⟩ := pp
      simp only at h0 h1
      have HPP := Lib.hid hp
      clear hp
      have hgr : g < wr.heap.size := Nat.lt_of_lt_of_le hgl hbl.size
      have hrs : 2 ≤ r := by have := hr.out; omega
      have hrc : r ≤ c := by have := hr.out; have := hcc.out; have := HC.out.1; omega
      have hcm2 : c ≤ 9223372036854775807 := by have := hcc.out; have := HC.out.2; unfold maxLen at this; omega
      have hrp : 0 < r := by omega
      have hri : (2 : Int) ≤ (r : Int) := by omega
      have hrci : (r : Int) ≤ (c : Int) := by omega
      have hi0 : (0 : Int) < (r : Int) := by omega
      have hi1 : (1 : Int) < (r : Int) := by omega
      go_wp2
      have hk0 : ∀ w', Below wr.heap.size wr w' → w'.cell? ⟨g, o, none⟩ = some (.int .i64 x0) ∧ w'.cell? ⟨g, o + 1, none⟩ = some (.int .i64 x1) := fun w' hB => ⟨(hB.cell hgr).trans h0, (hB.cell hgr).trans h1⟩
      have HKK := Lib.hid hk0
      have hneb : some g ≠ (Value.slice A0 k c0).ownBlock := by
        cases A0 with
        | none => simp [Value.ownBlock]
        | some a0 =>
          have := R.ge a0 rfl
          simp only [Value.ownBlock, ne_eq, Option.some.injEq]
          omega
      have HK5 := Lib.hid (show ∀ W w5, Below wr.heap.size wr W → W.grownBy w5 (Value.slice A0 k c0).ownBlock → w5.cell? ⟨g, o, none⟩ = some (.int .i64 x0) ∧ w5.cell? ⟨g, o + 1, none⟩ = some (.int .i64 x1) from fun W w5 hB hg =>
        ⟨(hg.cell_far ⟨g, o, none⟩ (Nat.lt_of_lt_of_le hgr hB.size) hneb).trans ((hB.cell hgr).trans h0), (hg.cell_far ⟨g, o + 1, none⟩ (Nat.lt_of_lt_of_le hgr hB.size) hneb).trans ((hB.cell hgr).trans h1)⟩)
      clear hk0 hneb
      obtain ⟨i0, hi0, hz0, hs0, hy0⟩ := info_parts info_Pair
      go_region_held_law (fun w' => w'.cell? ⟨g, o, none⟩ = some (.int .i64 x0) ∧ w'.cell? ⟨g, o + 1, none⟩ = some (.int .i64 x1))
        (first | exact HKK.out _ (Below.drew (Below.refl _ _)) | exact HKK.out _ (Below.alloc (Below.drew (Below.refl _ _)) (Nat.le_refl _) _) | exact HK5.out _ _ (Below.alloc (Below.drew (Below.refl _ _)) (Nat.le_refl _) _) (by assumption) | assumption)
        (first | (refine step_append_lies _ rfl _ _ 24 rfl w2.heap.size 82 i0 (.agg #[.int .i64 0, .int .i64 0]) 2 16 Try.underlying24 hi0 hz0 hs0 hy0 (by first | kernel_rfl | simp [Value.cells]) (by decide) (.slice A0 k c0) k (ints (PR (l.take k))) rfl (World.ownsRow.alloc R _) ⟨_, 0, none⟩ 1 1 [.int .i64 x0, .int .i64 x1] rfl rfl (cell_two_new _ _ _ _) (ints_oneCell .i64 [x0, x1]) (by decide) (by unfold maxLen; omega) (by omega) (by have := hbl.size; simp; omega) _ rfl ?_; intro g5 c5 w5 hown hgrow hat5 hlt5))
      have R5 : Row w5 w2.heap.size 82 2 (some ⟨g5, 0, none⟩) (k + 1) c5 (PR (l.take (k + 1))) := by rw [PR_take2 (HL.out.symm ▸ hlt), HPP.out]; unfold Row; rw [ints_append]; exact hown
      have B5 : Below w2.heap.size w2 w5 := (hbl.drew.alloc hbl.size _).grown hgrow (by have := hbl.size; simp; omega) (fun z hz => by
        cases A0 with
        | none => simp [Value.ownBlock] at hz
        | some a0 =>
          simp only [Value.ownBlock, Option.some.injEq] at hz
          have := R.ge a0 rfl
          omega)
      clear hgrow hat5 hlt5 hown HKK HK5 h0 h1
      by_cases hcs : c = 2
      · go_wp2
        exact ⟨⟨k + 1, _, r - 2, c - 2, _, c5, by omega, by omega, Lib.hid (by have := hr.out; omega), Lib.hid (by have := hcc.out; omega), Lib.hid (fun h => absurd h (by have := hr.out; omega)), by rw [hcs], rfl, R5, B5⟩, by show r - 2 < r; omega⟩
      · go_wp2
        exact ⟨⟨k + 1, _, r - 2, c - 2, _, c5, by omega, by omega, Lib.hid (by have := hr.out; omega), Lib.hid (by have := hcc.out; omega), Lib.hid (fun _ => congrArg (fun z => some (⟨g, z, none⟩ : Addr)) (by have := HO.out; omega)), rfl, rfl, R5, B5⟩, by show r - 2 < r; omega⟩
    · have hkm : k = m := by omega
      subst hkm
      have hr0 : r = 0 := by have := hr.out; omega
      subst hr0
      rw [List.take_of_length_le (by have := HL.out; omega)] at R
      go_wp2
      refine bodyPost_ret (v := .tuple #[.slice A0 k c0, .bool true]) (by simp [results, Try.results20, go_sem, *]) rfl ⟨A0, c0, rfl, ?_, ?_, ?_⟩
      · exact R.mono (Nat.le_trans HW.out.1 HW.out.2)
      · exact HK2.out.blk.below hbl
      · exact wrote_then HW2.out hbl
end Go.Proofs.Ytokklkmibjpjnaa

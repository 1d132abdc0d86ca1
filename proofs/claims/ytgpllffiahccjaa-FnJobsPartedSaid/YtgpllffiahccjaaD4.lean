/- The reference's draws of job lists. -/
import Derived.Test.YtgpllffiahccjaaD3
import Derived.Test.YtgpllffiahccjaaJ11
import Derived.Test.YtgpllffiahccjaaJ9
namespace Go.Proofs.Ytgpllffiahccjaa
set_option linter.unusedSimpArgs false
set_option linter.unusedVariables false
attribute [local go_sem] n_lt2 n_lt3 n_lt4 n_le2 n_le3
open Go.RowKit
attribute [local go_sem] Ext.cell Ext.frozen
set_option maxRecDepth 100000 in
set_option maxHeartbeats 4000000 in
theorem l15DrawJob_any (p : Nat) (w : World) (hL : LC w p 139) : Calls Try.prog 152 #[.pointer (some ⟨p, 0, none⟩)] w (fun e w' => ∃ a b c d f, e = .returned (.agg #[.int .i64 a, .int .i64 b, .int .i64 c, .int .i64 d, .int .i64 f]) ∧ LC w' p 139 ∧ Wrote w w' (some ⟨p, 0, none⟩)) := by
  have HL_0 := Lib.hid hL
  have hp := hL.lt
  clear hL
  have HW_0 : Hid (Wrote w w (some ⟨p, 0, none⟩)) := Lib.hid (wrote_refl _ _)
  have hz_0 : w.heap.size ≤ w.heap.size := Nat.le_refl _
  go_enter Try.func152, Try.ntmps152
  go_wp2_with fail
  refine calls_named ?_
  rintro v1 hv1
  have hz_1 : w.heap.size ≤ v1.heap.size := by rw [hv1]; (try simp only [size_set, World.size_alloc]); omega
  have hy_1 : w.heap.size + 1 ≤ v1.heap.size := by rw [hv1]; (try simp only [size_set, World.size_alloc]); omega
  have HB_1 : Hid (Below w.heap.size w v1) := by rw [hv1]; exact (Below.refl w.heap.size w).alloc (by (try simp only [size_set, World.size_alloc]); omega) _
  have HW_1 : Hid (Wrote w v1 (some ⟨p, 0, none⟩)) := Lib.hid (wrote_grow HW_0.out HB_1.out (Nat.le_refl _))
  have HL_1 : Hid (LC v1 p 139) := Lib.hid (HL_0.out.below HB_1.out hp)
  have HR_1 : Hid (Blk v1 w.heap.size 68 #[.int .i64 0, .int .i64 0, .int .i64 0, .int .i64 0, .int .i64 0]) := by rw [hv1]; exact (Blk.new_at _ _ _ _ (by simp [size_set]))
  clear hv1 HW_0 HL_0 HB_1 
  refine (l1Below_any p 12 v1 HL_1.out (by omega) (by omega)).mono ?_
  rintro e v2 ⟨x, rfl, ⟨x0, x1⟩, L_2, W_2⟩
  have hz_2 : w.heap.size ≤ v2.heap.size := Nat.le_trans hz_1 W_2.size
  have hy_2 := W_2.size
  have HW_2 := Lib.hid (wrote_trans HW_1.out W_2)
  have HL_2 := Lib.hid L_2
  have HR_2 := Lib.hid (HR_1.out.wroteA W_2 (fun a ha => by obtain rfl := Option.some.inj ha; show p ≠ w.heap.size; omega))
  clear HW_1 HL_1 L_2 W_2 HR_1
  go_wp2_with fail
  refine (l1Below_any p 40 v2 HL_2.out (by omega) (by omega)).mono ?_
  rintro e v3 ⟨y, rfl, ⟨y0, y1⟩, L_3, W_3⟩
  have hz_3 : w.heap.size ≤ v3.heap.size := Nat.le_trans hz_2 W_3.size
  have hy_3 := W_3.size
  have HW_3 := Lib.hid (wrote_trans HW_2.out W_3)
  have HL_3 := Lib.hid L_3
  have HR_3 := Lib.hid (HR_2.out.wroteA W_3 (fun a ha => by obtain rfl := Option.some.inj ha; show p ≠ w.heap.size; omega))
  clear HW_2 HL_2 L_3 W_3 HR_2
  go_wp2_with fail
  refine (l1Below_any p 10 v3 HL_3.out (by omega) (by omega)).mono ?_
  rintro e v4 ⟨z, rfl, ⟨z0, z1⟩, L_4, W_4⟩
  have hz_4 : w.heap.size ≤ v4.heap.size := Nat.le_trans hz_3 W_4.size
  have hy_4 := W_4.size
  have HW_4 := Lib.hid (wrote_trans HW_3.out W_4)
  have HL_4 := Lib.hid L_4
  have HR_4 := Lib.hid (HR_3.out.wroteA W_4 (fun a ha => by obtain rfl := Option.some.inj ha; show p ≠ w.heap.size; omega))
  clear HW_3 HL_3 L_4 W_4 HR_3
  go_wp2_with fail
  refine (l1Below_any p 9 v4 HL_4.out (by omega) (by omega)).mono ?_
  rintro e v5 ⟨u, rfl, ⟨u0, u1⟩, L_5, W_5⟩
  have hz_5 : w.heap.size ≤ v5.heap.size := Nat.le_trans hz_4 W_5.size
  have hy_5 := W_5.size
  have HW_5 := Lib.hid (wrote_trans HW_4.out W_5)
  have HL_5 := Lib.hid L_5
  have HR_5 := Lib.hid (HR_4.out.wroteA W_5 (fun a ha => by obtain rfl := Option.some.inj ha; show p ≠ w.heap.size; omega))
  clear HW_4 HL_4 L_5 W_5 HR_4
  go_wp2_with fail
  refine calls_named ?_
  rintro v6 hv6
  have hz_6 : w.heap.size ≤ v6.heap.size := by rw [hv6]; (try simp only [size_set, World.size_alloc]); omega
  have hy_6 : v5.heap.size + 1 ≤ v6.heap.size := by rw [hv6]; (try simp only [size_set, World.size_alloc]); omega
  have HB_6 : Hid (Below w.heap.size v5 v6) := by rw [hv6]; exact (Below.refl w.heap.size v5).alloc (by (try simp only [size_set, World.size_alloc]); omega) _
  have HW_6 : Hid (Wrote w v6 (some ⟨p, 0, none⟩)) := Lib.hid (wrote_grow HW_5.out HB_6.out (Nat.le_refl _))
  have HL_6 : Hid (LC v6 p 139) := Lib.hid (HL_5.out.below HB_6.out hp)
  have HR_6 : Hid (Blk v6 w.heap.size 68 #[.int .i64 0, .int .i64 0, .int .i64 0, .int .i64 0, .int .i64 0]) := by rw [hv6]; exact (HR_5.out).alloc _
  have HN_6 : Hid (Blk v6 v5.heap.size 68 #[.int .i64 (1 + x), .int .i64 y, .int .i64 z, .int .i64 u, .int .i64 0]) := by rw [hv6]; exact (Blk.new_at _ _ _ _ (by simp [size_set]))
  clear hv6 HW_5 HL_5 HB_6 HR_5
  refine (l1Once_any p 12 v6 HL_6.out (by omega) (by omega)).mono ?_
  rintro e v7 ⟨b, rfl, L_7, W_7⟩
  have hz_7 : w.heap.size ≤ v7.heap.size := Nat.le_trans hz_6 W_7.size
  have hy_7 := W_7.size
  have HW_7 := Lib.hid (wrote_trans HW_6.out W_7)
  have HL_7 := Lib.hid L_7
  have HR_7 := Lib.hid (HR_6.out.wroteA W_7 (fun a ha => by obtain rfl := Option.some.inj ha; show p ≠ w.heap.size; omega))
  have HN_7 := Lib.hid (HN_6.out.wroteA W_7 (fun a ha => by obtain rfl := Option.some.inj ha; show p ≠ v5.heap.size; omega))
  clear HW_6 HL_6 L_7 W_7 HR_6 HN_6
  cases b with
  | false =>
    have lt_N := HN_7.out.lt
    have r_N0 : v7.cell? ⟨v5.heap.size, 0, none⟩ = some (.int .i64 (1 + x)) := HN_7.out.cell 0
    have z_N0 := HN_7.out.frozen 0
    have r_N1 : v7.cell? ⟨v5.heap.size, 1, none⟩ = some (.int .i64 y) := HN_7.out.cell 1
    have z_N1 := HN_7.out.frozen 1
    have r_N2 : v7.cell? ⟨v5.heap.size, 2, none⟩ = some (.int .i64 z) := HN_7.out.cell 2
    have z_N2 := HN_7.out.frozen 2
    have r_N3 : v7.cell? ⟨v5.heap.size, 3, none⟩ = some (.int .i64 u) := HN_7.out.cell 3
    have z_N3 := HN_7.out.frozen 3
    have r_N4 : v7.cell? ⟨v5.heap.size, 4, none⟩ = some (.int .i64 0) := HN_7.out.cell 4
    have z_N4 := HN_7.out.frozen 4
    have lt_R := HR_7.out.lt
    have r_R0 : v7.cell? ⟨w.heap.size, 0, none⟩ = some (.int .i64 0) := HR_7.out.cell 0
    have z_R0 := HR_7.out.frozen 0
    have r_R1 : v7.cell? ⟨w.heap.size, 1, none⟩ = some (.int .i64 0) := HR_7.out.cell 1
    have z_R1 := HR_7.out.frozen 1
    have r_R2 : v7.cell? ⟨w.heap.size, 2, none⟩ = some (.int .i64 0) := HR_7.out.cell 2
    have z_R2 := HR_7.out.frozen 2
    have r_R3 : v7.cell? ⟨w.heap.size, 3, none⟩ = some (.int .i64 0) := HR_7.out.cell 3
    have z_R3 := HR_7.out.frozen 3
    have r_R4 : v7.cell? ⟨w.heap.size, 4, none⟩ = some (.int .i64 0) := HR_7.out.cell 4
    have z_R4 := HR_7.out.frozen 4
    go_wp2
    refine bodyPost_ret (v := .agg #[.int .i64 (1 + x), .int .i64 y, .int .i64 z, .int .i64 u, .int .i64 0]) (by simp [results, Try.results152, go_sem, *]) rfl ⟨_, _, _, _, _, rfl, by (repeat (first | (with_reducible exact HL_7.out) | (with_reducible refine LC.far ?_ ?_ _; rotate_left; ((try dsimp only); omega)) | (with_reducible refine LC.alloc ?_ _))), by (repeat (first | (with_reducible exact HW_7.out) | (with_reducible refine wrote_far ?_ ?_ _; rotate_left; ((try dsimp only); omega)) | (with_reducible refine wrote_alloc ?_ _)))⟩
  | true =>
    go_wp2_with fail
    refine calls_named ?_
    rintro v8 hv8
    have hz_8 : w.heap.size ≤ v8.heap.size := by rw [hv8]; (try simp only [size_set, World.size_alloc]); omega
    have hy_8 : v7.heap.size + 1 ≤ v8.heap.size := by rw [hv8]; (try simp only [size_set, World.size_alloc]); omega
    have HB_8 : Hid (Below w.heap.size v7 v8) := by rw [hv8]; exact (Below.refl w.heap.size v7).alloc (by (try simp only [size_set, World.size_alloc]); omega) _
    have HW_8 : Hid (Wrote w v8 (some ⟨p, 0, none⟩)) := Lib.hid (wrote_grow HW_7.out HB_8.out (Nat.le_refl _))
    have HL_8 : Hid (LC v8 p 139) := Lib.hid (HL_7.out.below HB_8.out hp)
    have HR_8 : Hid (Blk v8 w.heap.size 68 #[.int .i64 0, .int .i64 0, .int .i64 0, .int .i64 0, .int .i64 0]) := by rw [hv8]; exact (HR_7.out).alloc _
    have HN_8 : Hid (Blk v8 v5.heap.size 68 #[.int .i64 (1 + x), .int .i64 y, .int .i64 z, .int .i64 u, .int .i64 0]) := by rw [hv8]; exact (HN_7.out).alloc _
    have HQ_8 : Hid (Blk v8 v7.heap.size 2 #[.int .i64 0, .int .i64 1000000]) := by rw [hv8]; exact (Blk.new_at _ _ _ _ (by simp [size_set]))
    clear hv8 HW_7 HL_7 HB_8 HR_7 HN_7
    refine (l1Below_any p 2 v8 HL_8.out (by omega) (by omega)).mono ?_
    rintro e v9 ⟨s, rfl, ⟨s0, s1⟩, L_9, W_9⟩
    have hz_9 : w.heap.size ≤ v9.heap.size := Nat.le_trans hz_8 W_9.size
    have hy_9 := W_9.size
    have HW_9 := Lib.hid (wrote_trans HW_8.out W_9)
    have HL_9 := Lib.hid L_9
    have HR_9 := Lib.hid (HR_8.out.wroteA W_9 (fun a ha => by obtain rfl := Option.some.inj ha; show p ≠ w.heap.size; omega))
    have HN_9 := Lib.hid (HN_8.out.wroteA W_9 (fun a ha => by obtain rfl := Option.some.inj ha; show p ≠ v5.heap.size; omega))
    have HQ_9 := Lib.hid (HQ_8.out.wroteA W_9 (fun a ha => by obtain rfl := Option.some.inj ha; show p ≠ v7.heap.size; omega))
    clear HW_8 HL_8 L_9 W_9 HR_8 HN_8 HQ_8
    obtain ⟨ks, rfl⟩ : ∃ k : Nat, s = k := ⟨s.toNat, by omega⟩
    obtain ⟨v, hv⟩ := lit_cell [0, 1000000] HQ_9.out ks (by simp; omega)
    have lt_Q := HQ_9.out.lt
    clear HQ_9
    have lt_N := HN_9.out.lt
    have r_N0 : v9.cell? ⟨v5.heap.size, 0, none⟩ = some (.int .i64 (1 + x)) := HN_9.out.cell 0
    have z_N0 := HN_9.out.frozen 0
    have r_N1 : v9.cell? ⟨v5.heap.size, 1, none⟩ = some (.int .i64 y) := HN_9.out.cell 1
    have z_N1 := HN_9.out.frozen 1
    have r_N2 : v9.cell? ⟨v5.heap.size, 2, none⟩ = some (.int .i64 z) := HN_9.out.cell 2
    have z_N2 := HN_9.out.frozen 2
    have r_N3 : v9.cell? ⟨v5.heap.size, 3, none⟩ = some (.int .i64 u) := HN_9.out.cell 3
    have z_N3 := HN_9.out.frozen 3
    have r_N4 : v9.cell? ⟨v5.heap.size, 4, none⟩ = some (.int .i64 0) := HN_9.out.cell 4
    have z_N4 := HN_9.out.frozen 4
    have lt_R := HR_9.out.lt
    have r_R0 : v9.cell? ⟨w.heap.size, 0, none⟩ = some (.int .i64 0) := HR_9.out.cell 0
    have z_R0 := HR_9.out.frozen 0
    have r_R1 : v9.cell? ⟨w.heap.size, 1, none⟩ = some (.int .i64 0) := HR_9.out.cell 1
    have z_R1 := HR_9.out.frozen 1
    have r_R2 : v9.cell? ⟨w.heap.size, 2, none⟩ = some (.int .i64 0) := HR_9.out.cell 2
    have z_R2 := HR_9.out.frozen 2
    have r_R3 : v9.cell? ⟨w.heap.size, 3, none⟩ = some (.int .i64 0) := HR_9.out.cell 3
    have z_R3 := HR_9.out.frozen 3
    have r_R4 : v9.cell? ⟨w.heap.size, 4, none⟩ = some (.int .i64 0) := HR_9.out.cell 4
    have z_R4 := HR_9.out.frozen 4
    go_wp2
    refine bodyPost_ret (v := .agg #[.int .i64 (1 + x), .int .i64 v, .int .i64 z, .int .i64 u, .int .i64 0]) (by simp [results, Try.results152, go_sem, *]) rfl ⟨_, _, _, _, _, rfl, by (repeat (first | (with_reducible exact HL_9.out) | (with_reducible refine LC.far ?_ ?_ _; rotate_left; ((try dsimp only); omega)) | (with_reducible refine LC.alloc ?_ _))), by (repeat (first | (with_reducible exact HW_9.out) | (with_reducible refine wrote_far ?_ ?_ _; rotate_left; ((try dsimp only); omega)) | (with_reducible refine wrote_alloc ?_ _)))⟩
set_option maxRecDepth 100000 in
set_option maxHeartbeats 4000000 in
theorem l15BentJob_any (p : Nat) (a b c d f : Int) (w : World) (hL : LC w p 139) : Calls Try.prog 132 #[.pointer (some ⟨p, 0, none⟩), .agg #[.int .i64 a, .int .i64 b, .int .i64 c, .int .i64 d, .int .i64 f]] w (fun e w' => ∃ a b c d f, e = .returned (.agg #[.int .i64 a, .int .i64 b, .int .i64 c, .int .i64 d, .int .i64 f]) ∧ LC w' p 139 ∧ Wrote w w' (some ⟨p, 0, none⟩)) := by
  have HL_0 := Lib.hid hL
  have hp := hL.lt
  clear hL
  have HW_0 : Hid (Wrote w w (some ⟨p, 0, none⟩)) := Lib.hid (wrote_refl _ _)
  have hz_0 : w.heap.size ≤ w.heap.size := Nat.le_refl _
  go_enter Try.func132, Try.ntmps132
  go_wp2_with fail
  refine calls_named ?_
  rintro v1 hv1
  have hz_1 : w.heap.size ≤ v1.heap.size := by rw [hv1]; (try simp only [size_set, World.size_alloc]); omega
  have hy_1 : w.heap.size + 2 ≤ v1.heap.size := by rw [hv1]; (try simp only [size_set, World.size_alloc]); omega
  have HB_1 : Hid (Below w.heap.size w v1) := by rw [hv1]; exact ((Below.refl w.heap.size w).alloc (by (try simp only [size_set, World.size_alloc]); omega) _).alloc (by (try simp only [size_set, World.size_alloc]); omega) _
  have HW_1 : Hid (Wrote w v1 (some ⟨p, 0, none⟩)) := Lib.hid (wrote_grow HW_0.out HB_1.out (Nat.le_refl _))
  have HL_1 : Hid (LC v1 p 139) := Lib.hid (HL_0.out.below HB_1.out hp)
  have HN_1 : Hid (Blk v1 w.heap.size 68 #[.int .i64 a, .int .i64 b, .int .i64 c, .int .i64 d, .int .i64 f]) := by rw [hv1]; exact ((Blk.new_at _ _ _ _ (by simp [size_set]))).alloc _
  have HR_1 : Hid (Blk v1 (w.heap.size + 1) 68 #[.int .i64 0, .int .i64 0, .int .i64 0, .int .i64 0, .int .i64 0]) := by rw [hv1]; exact (Blk.new_at _ _ _ _ (by simp [size_set]))
  clear hv1 HW_0 HL_0 HB_1 
  refine (l1Below_any p 5 v1 HL_1.out (by omega) (by omega)).mono ?_
  rintro e v2 ⟨x, rfl, ⟨x0, x1⟩, L_2, W_2⟩
  have hz_2 : w.heap.size ≤ v2.heap.size := Nat.le_trans hz_1 W_2.size
  have hy_2 := W_2.size
  have HW_2 := Lib.hid (wrote_trans HW_1.out W_2)
  have HL_2 := Lib.hid L_2
  have HN_2 := Lib.hid (HN_1.out.wroteA W_2 (fun a ha => by obtain rfl := Option.some.inj ha; show p ≠ w.heap.size; omega))
  have HR_2 := Lib.hid (HR_1.out.wroteA W_2 (fun a ha => by obtain rfl := Option.some.inj ha; show p ≠ (w.heap.size + 1); omega))
  clear HW_1 HL_1 L_2 W_2 HN_1 HR_1
  rcases (by omega : x = 0 ∨ x = 1 ∨ x = 2 ∨ x = 3 ∨ x = 4) with rfl | rfl | rfl | rfl | rfl
  · skip
    go_wp2_with fail
    refine calls_named ?_
    rintro v3 hv3
    have hz_3 : w.heap.size ≤ v3.heap.size := by rw [hv3]; (try simp only [size_set, World.size_alloc]); omega
    have hy_3 : v2.heap.size + 1 ≤ v3.heap.size := by rw [hv3]; (try simp only [size_set, World.size_alloc]); omega
    have HB_3 : Hid (Below w.heap.size v2 v3) := by rw [hv3]; exact (Below.refl w.heap.size v2).alloc (by (try simp only [size_set, World.size_alloc]); omega) _
    have HW_3 : Hid (Wrote w v3 (some ⟨p, 0, none⟩)) := Lib.hid (wrote_grow HW_2.out HB_3.out (Nat.le_refl _))
    have HL_3 : Hid (LC v3 p 139) := Lib.hid (HL_2.out.below HB_3.out hp)
    have HN_3 : Hid (Blk v3 w.heap.size 68 #[.int .i64 a, .int .i64 b, .int .i64 c, .int .i64 d, .int .i64 f]) := by rw [hv3]; exact (HN_2.out).alloc _
    have HR_3 : Hid (Blk v3 (w.heap.size + 1) 68 #[.int .i64 0, .int .i64 0, .int .i64 0, .int .i64 0, .int .i64 0]) := by rw [hv3]; exact (HR_2.out).alloc _
    have HQ_3 : Hid (Blk v3 v2.heap.size 2 #[.int .i64 0, .int .i64 1, .int .i64 20, .int .i64 21]) := by rw [hv3]; exact (Blk.new_at _ _ _ _ (by simp [size_set]))
    clear hv3 HW_2 HL_2 HB_3 HN_2 HR_2
    refine (l1Below_any p 4 v3 HL_3.out (by omega) (by omega)).mono ?_
    rintro e v4 ⟨t, rfl, ⟨t0, t1⟩, L_4, W_4⟩
    have hz_4 : w.heap.size ≤ v4.heap.size := Nat.le_trans hz_3 W_4.size
    have hy_4 := W_4.size
    have HW_4 := Lib.hid (wrote_trans HW_3.out W_4)
    have HL_4 := Lib.hid L_4
    have HN_4 := Lib.hid (HN_3.out.wroteA W_4 (fun a ha => by obtain rfl := Option.some.inj ha; show p ≠ w.heap.size; omega))
    have HR_4 := Lib.hid (HR_3.out.wroteA W_4 (fun a ha => by obtain rfl := Option.some.inj ha; show p ≠ (w.heap.size + 1); omega))
    have HQ_4 := Lib.hid (HQ_3.out.wroteA W_4 (fun a ha => by obtain rfl := Option.some.inj ha; show p ≠ v2.heap.size; omega))
    clear HW_3 HL_3 L_4 W_4 HN_3 HR_3 HQ_3
    obtain ⟨kt, rfl⟩ : ∃ k : Nat, t = k := ⟨t.toNat, by omega⟩
    obtain ⟨u, hu⟩ := lit_cell [0, 1, 20, 21] HQ_4.out kt (by simp; omega)
    have lt_Q := HQ_4.out.lt
    clear HQ_4
    have lt_N := HN_4.out.lt
    have r_N0 : v4.cell? ⟨w.heap.size, 0, none⟩ = some (.int .i64 a) := HN_4.out.cell 0
    have z_N0 := HN_4.out.frozen 0
    have r_N1 : v4.cell? ⟨w.heap.size, 1, none⟩ = some (.int .i64 b) := HN_4.out.cell 1
    have z_N1 := HN_4.out.frozen 1
    have r_N2 : v4.cell? ⟨w.heap.size, 2, none⟩ = some (.int .i64 c) := HN_4.out.cell 2
    have z_N2 := HN_4.out.frozen 2
    have r_N3 : v4.cell? ⟨w.heap.size, 3, none⟩ = some (.int .i64 d) := HN_4.out.cell 3
    have z_N3 := HN_4.out.frozen 3
    have r_N4 : v4.cell? ⟨w.heap.size, 4, none⟩ = some (.int .i64 f) := HN_4.out.cell 4
    have z_N4 := HN_4.out.frozen 4
    have lt_R := HR_4.out.lt
    have r_R0 : v4.cell? ⟨(w.heap.size + 1), 0, none⟩ = some (.int .i64 0) := HR_4.out.cell 0
    have z_R0 := HR_4.out.frozen 0
    have r_R1 : v4.cell? ⟨(w.heap.size + 1), 1, none⟩ = some (.int .i64 0) := HR_4.out.cell 1
    have z_R1 := HR_4.out.frozen 1
    have r_R2 : v4.cell? ⟨(w.heap.size + 1), 2, none⟩ = some (.int .i64 0) := HR_4.out.cell 2
    have z_R2 := HR_4.out.frozen 2
    have r_R3 : v4.cell? ⟨(w.heap.size + 1), 3, none⟩ = some (.int .i64 0) := HR_4.out.cell 3
    have z_R3 := HR_4.out.frozen 3
    have r_R4 : v4.cell? ⟨(w.heap.size + 1), 4, none⟩ = some (.int .i64 0) := HR_4.out.cell 4
    have z_R4 := HR_4.out.frozen 4
    go_wp2
    refine bodyPost_ret (v := .agg #[.int .i64 u, .int .i64 b, .int .i64 c, .int .i64 d, .int .i64 f]) (by simp [results, Try.results132, go_sem, *]) rfl ⟨_, _, _, _, _, rfl, by (repeat (first | (with_reducible exact HL_4.out) | (with_reducible refine LC.far ?_ ?_ _; rotate_left; ((try dsimp only); omega)) | (with_reducible refine LC.alloc ?_ _))), by (repeat (first | (with_reducible exact HW_4.out) | (with_reducible refine wrote_far ?_ ?_ _; rotate_left; ((try dsimp only); omega)) | (with_reducible refine wrote_alloc ?_ _)))⟩
  · skip
    go_wp2_with fail
    refine calls_named ?_
    rintro v3 hv3
    have hz_3 : w.heap.size ≤ v3.heap.size := by rw [hv3]; (try simp only [size_set, World.size_alloc]); omega
    have hy_3 : v2.heap.size + 1 ≤ v3.heap.size := by rw [hv3]; (try simp only [size_set, World.size_alloc]); omega
    have HB_3 : Hid (Below w.heap.size v2 v3) := by rw [hv3]; exact (Below.refl w.heap.size v2).alloc (by (try simp only [size_set, World.size_alloc]); omega) _
    have HW_3 : Hid (Wrote w v3 (some ⟨p, 0, none⟩)) := Lib.hid (wrote_grow HW_2.out HB_3.out (Nat.le_refl _))
    have HL_3 : Hid (LC v3 p 139) := Lib.hid (HL_2.out.below HB_3.out hp)
    have HN_3 : Hid (Blk v3 w.heap.size 68 #[.int .i64 a, .int .i64 b, .int .i64 c, .int .i64 d, .int .i64 f]) := by rw [hv3]; exact (HN_2.out).alloc _
    have HR_3 : Hid (Blk v3 (w.heap.size + 1) 68 #[.int .i64 0, .int .i64 0, .int .i64 0, .int .i64 0, .int .i64 0]) := by rw [hv3]; exact (HR_2.out).alloc _
    have HQ_3 : Hid (Blk v3 v2.heap.size 2 #[.int .i64 (-1), .int .i64 1000000, .int .i64 1000001]) := by rw [hv3]; exact (Blk.new_at _ _ _ _ (by simp [size_set]))
    clear hv3 HW_2 HL_2 HB_3 HN_2 HR_2
    refine (l1Below_any p 3 v3 HL_3.out (by omega) (by omega)).mono ?_
    rintro e v4 ⟨t, rfl, ⟨t0, t1⟩, L_4, W_4⟩
    have hz_4 : w.heap.size ≤ v4.heap.size := Nat.le_trans hz_3 W_4.size
    have hy_4 := W_4.size
    have HW_4 := Lib.hid (wrote_trans HW_3.out W_4)
    have HL_4 := Lib.hid L_4
    have HN_4 := Lib.hid (HN_3.out.wroteA W_4 (fun a ha => by obtain rfl := Option.some.inj ha; show p ≠ w.heap.size; omega))
    have HR_4 := Lib.hid (HR_3.out.wroteA W_4 (fun a ha => by obtain rfl := Option.some.inj ha; show p ≠ (w.heap.size + 1); omega))
    have HQ_4 := Lib.hid (HQ_3.out.wroteA W_4 (fun a ha => by obtain rfl := Option.some.inj ha; show p ≠ v2.heap.size; omega))
    clear HW_3 HL_3 L_4 W_4 HN_3 HR_3 HQ_3
    obtain ⟨kt, rfl⟩ : ∃ k : Nat, t = k := ⟨t.toNat, by omega⟩
    obtain ⟨u, hu⟩ := lit_cell [-1, 1000000, 1000001] HQ_4.out kt (by simp; omega)
    have lt_Q := HQ_4.out.lt
    clear HQ_4
    have lt_N := HN_4.out.lt
    have r_N0 : v4.cell? ⟨w.heap.size, 0, none⟩ = some (.int .i64 a) := HN_4.out.cell 0
    have z_N0 := HN_4.out.frozen 0
    have r_N1 : v4.cell? ⟨w.heap.size, 1, none⟩ = some (.int .i64 b) := HN_4.out.cell 1
    have z_N1 := HN_4.out.frozen 1
    have r_N2 : v4.cell? ⟨w.heap.size, 2, none⟩ = some (.int .i64 c) := HN_4.out.cell 2
    have z_N2 := HN_4.out.frozen 2
    have r_N3 : v4.cell? ⟨w.heap.size, 3, none⟩ = some (.int .i64 d) := HN_4.out.cell 3
    have z_N3 := HN_4.out.frozen 3
    have r_N4 : v4.cell? ⟨w.heap.size, 4, none⟩ = some (.int .i64 f) := HN_4.out.cell 4
    have z_N4 := HN_4.out.frozen 4
    have lt_R := HR_4.out.lt
    have r_R0 : v4.cell? ⟨(w.heap.size + 1), 0, none⟩ = some (.int .i64 0) := HR_4.out.cell 0
    have z_R0 := HR_4.out.frozen 0
    have r_R1 : v4.cell? ⟨(w.heap.size + 1), 1, none⟩ = some (.int .i64 0) := HR_4.out.cell 1
    have z_R1 := HR_4.out.frozen 1
    have r_R2 : v4.cell? ⟨(w.heap.size + 1), 2, none⟩ = some (.int .i64 0) := HR_4.out.cell 2
    have z_R2 := HR_4.out.frozen 2
    have r_R3 : v4.cell? ⟨(w.heap.size + 1), 3, none⟩ = some (.int .i64 0) := HR_4.out.cell 3
    have z_R3 := HR_4.out.frozen 3
    have r_R4 : v4.cell? ⟨(w.heap.size + 1), 4, none⟩ = some (.int .i64 0) := HR_4.out.cell 4
    have z_R4 := HR_4.out.frozen 4
    go_wp2
    refine bodyPost_ret (v := .agg #[.int .i64 a, .int .i64 u, .int .i64 c, .int .i64 d, .int .i64 f]) (by simp [results, Try.results132, go_sem, *]) rfl ⟨_, _, _, _, _, rfl, by (repeat (first | (with_reducible exact HL_4.out) | (with_reducible refine LC.far ?_ ?_ _; rotate_left; ((try dsimp only); omega)) | (with_reducible refine LC.alloc ?_ _))), by (repeat (first | (with_reducible exact HW_4.out) | (with_reducible refine wrote_far ?_ ?_ _; rotate_left; ((try dsimp only); omega)) | (with_reducible refine wrote_alloc ?_ _)))⟩
  · skip
    go_wp2_with fail
    refine calls_named ?_
    rintro v3 hv3
    have hz_3 : w.heap.size ≤ v3.heap.size := by rw [hv3]; (try simp only [size_set, World.size_alloc]); omega
    have hy_3 : v2.heap.size + 1 ≤ v3.heap.size := by rw [hv3]; (try simp only [size_set, World.size_alloc]); omega
    have HB_3 : Hid (Below w.heap.size v2 v3) := by rw [hv3]; exact (Below.refl w.heap.size v2).alloc (by (try simp only [size_set, World.size_alloc]); omega) _
    have HW_3 : Hid (Wrote w v3 (some ⟨p, 0, none⟩)) := Lib.hid (wrote_grow HW_2.out HB_3.out (Nat.le_refl _))
    have HL_3 : Hid (LC v3 p 139) := Lib.hid (HL_2.out.below HB_3.out hp)
    have HN_3 : Hid (Blk v3 w.heap.size 68 #[.int .i64 a, .int .i64 b, .int .i64 c, .int .i64 d, .int .i64 f]) := by rw [hv3]; exact (HN_2.out).alloc _
    have HR_3 : Hid (Blk v3 (w.heap.size + 1) 68 #[.int .i64 0, .int .i64 0, .int .i64 0, .int .i64 0, .int .i64 0]) := by rw [hv3]; exact (HR_2.out).alloc _
    have HQ_3 : Hid (Blk v3 v2.heap.size 2 #[.int .i64 (-1), .int .i64 10]) := by rw [hv3]; exact (Blk.new_at _ _ _ _ (by simp [size_set]))
    clear hv3 HW_2 HL_2 HB_3 HN_2 HR_2
    refine (l1Below_any p 2 v3 HL_3.out (by omega) (by omega)).mono ?_
    rintro e v4 ⟨t, rfl, ⟨t0, t1⟩, L_4, W_4⟩
    have hz_4 : w.heap.size ≤ v4.heap.size := Nat.le_trans hz_3 W_4.size
    have hy_4 := W_4.size
    have HW_4 := Lib.hid (wrote_trans HW_3.out W_4)
    have HL_4 := Lib.hid L_4
    have HN_4 := Lib.hid (HN_3.out.wroteA W_4 (fun a ha => by obtain rfl := Option.some.inj ha; show p ≠ w.heap.size; omega))
    have HR_4 := Lib.hid (HR_3.out.wroteA W_4 (fun a ha => by obtain rfl := Option.some.inj ha; show p ≠ (w.heap.size + 1); omega))
    have HQ_4 := Lib.hid (HQ_3.out.wroteA W_4 (fun a ha => by obtain rfl := Option.some.inj ha; show p ≠ v2.heap.size; omega))
    clear HW_3 HL_3 L_4 W_4 HN_3 HR_3 HQ_3
    obtain ⟨kt, rfl⟩ : ∃ k : Nat, t = k := ⟨t.toNat, by omega⟩
    obtain ⟨u, hu⟩ := lit_cell [-1, 10] HQ_4.out kt (by simp; omega)
    have lt_Q := HQ_4.out.lt
    clear HQ_4
    have lt_N := HN_4.out.lt
    have r_N0 : v4.cell? ⟨w.heap.size, 0, none⟩ = some (.int .i64 a) := HN_4.out.cell 0
    have z_N0 := HN_4.out.frozen 0
    have r_N1 : v4.cell? ⟨w.heap.size, 1, none⟩ = some (.int .i64 b) := HN_4.out.cell 1
    have z_N1 := HN_4.out.frozen 1
    have r_N2 : v4.cell? ⟨w.heap.size, 2, none⟩ = some (.int .i64 c) := HN_4.out.cell 2
    have z_N2 := HN_4.out.frozen 2
    have r_N3 : v4.cell? ⟨w.heap.size, 3, none⟩ = some (.int .i64 d) := HN_4.out.cell 3
    have z_N3 := HN_4.out.frozen 3
    have r_N4 : v4.cell? ⟨w.heap.size, 4, none⟩ = some (.int .i64 f) := HN_4.out.cell 4
    have z_N4 := HN_4.out.frozen 4
    have lt_R := HR_4.out.lt
    have r_R0 : v4.cell? ⟨(w.heap.size + 1), 0, none⟩ = some (.int .i64 0) := HR_4.out.cell 0
    have z_R0 := HR_4.out.frozen 0
    have r_R1 : v4.cell? ⟨(w.heap.size + 1), 1, none⟩ = some (.int .i64 0) := HR_4.out.cell 1
    have z_R1 := HR_4.out.frozen 1
    have r_R2 : v4.cell? ⟨(w.heap.size + 1), 2, none⟩ = some (.int .i64 0) := HR_4.out.cell 2
    have z_R2 := HR_4.out.frozen 2
    have r_R3 : v4.cell? ⟨(w.heap.size + 1), 3, none⟩ = some (.int .i64 0) := HR_4.out.cell 3
    have z_R3 := HR_4.out.frozen 3
    have r_R4 : v4.cell? ⟨(w.heap.size + 1), 4, none⟩ = some (.int .i64 0) := HR_4.out.cell 4
    have z_R4 := HR_4.out.frozen 4
    go_wp2
    refine bodyPost_ret (v := .agg #[.int .i64 a, .int .i64 b, .int .i64 u, .int .i64 d, .int .i64 f]) (by simp [results, Try.results132, go_sem, *]) rfl ⟨_, _, _, _, _, rfl, by (repeat (first | (with_reducible exact HL_4.out) | (with_reducible refine LC.far ?_ ?_ _; rotate_left; ((try dsimp only); omega)) | (with_reducible refine LC.alloc ?_ _))), by (repeat (first | (with_reducible exact HW_4.out) | (with_reducible refine wrote_far ?_ ?_ _; rotate_left; ((try dsimp only); omega)) | (with_reducible refine wrote_alloc ?_ _)))⟩
  · skip
    go_wp2_with fail
    refine calls_named ?_
    rintro v3 hv3
    have hz_3 : w.heap.size ≤ v3.heap.size := by rw [hv3]; (try simp only [size_set, World.size_alloc]); omega
    have hy_3 : v2.heap.size + 1 ≤ v3.heap.size := by rw [hv3]; (try simp only [size_set, World.size_alloc]); omega
    have HB_3 : Hid (Below w.heap.size v2 v3) := by rw [hv3]; exact (Below.refl w.heap.size v2).alloc (by (try simp only [size_set, World.size_alloc]); omega) _
    have HW_3 : Hid (Wrote w v3 (some ⟨p, 0, none⟩)) := Lib.hid (wrote_grow HW_2.out HB_3.out (Nat.le_refl _))
    have HL_3 : Hid (LC v3 p 139) := Lib.hid (HL_2.out.below HB_3.out hp)
    have HN_3 : Hid (Blk v3 w.heap.size 68 #[.int .i64 a, .int .i64 b, .int .i64 c, .int .i64 d, .int .i64 f]) := by rw [hv3]; exact (HN_2.out).alloc _
    have HR_3 : Hid (Blk v3 (w.heap.size + 1) 68 #[.int .i64 0, .int .i64 0, .int .i64 0, .int .i64 0, .int .i64 0]) := by rw [hv3]; exact (HR_2.out).alloc _
    have HQ_3 : Hid (Blk v3 v2.heap.size 2 #[.int .i64 (-1), .int .i64 999, .int .i64 1000]) := by rw [hv3]; exact (Blk.new_at _ _ _ _ (by simp [size_set]))
    clear hv3 HW_2 HL_2 HB_3 HN_2 HR_2
    refine (l1Below_any p 3 v3 HL_3.out (by omega) (by omega)).mono ?_
    rintro e v4 ⟨t, rfl, ⟨t0, t1⟩, L_4, W_4⟩
    have hz_4 : w.heap.size ≤ v4.heap.size := Nat.le_trans hz_3 W_4.size
    have hy_4 := W_4.size
    have HW_4 := Lib.hid (wrote_trans HW_3.out W_4)
    have HL_4 := Lib.hid L_4
    have HN_4 := Lib.hid (HN_3.out.wroteA W_4 (fun a ha => by obtain rfl := Option.some.inj ha; show p ≠ w.heap.size; omega))
    have HR_4 := Lib.hid (HR_3.out.wroteA W_4 (fun a ha => by obtain rfl := Option.some.inj ha; show p ≠ (w.heap.size + 1); omega))
    have HQ_4 := Lib.hid (HQ_3.out.wroteA W_4 (fun a ha => by obtain rfl := Option.some.inj ha; show p ≠ v2.heap.size; omega))
    clear HW_3 HL_3 L_4 W_4 HN_3 HR_3 HQ_3
    obtain ⟨kt, rfl⟩ : ∃ k : Nat, t = k := ⟨t.toNat, by omega⟩
    obtain ⟨u, hu⟩ := lit_cell [-1, 999, 1000] HQ_4.out kt (by simp; omega)
    have lt_Q := HQ_4.out.lt
    clear HQ_4
    have lt_N := HN_4.out.lt
    have r_N0 : v4.cell? ⟨w.heap.size, 0, none⟩ = some (.int .i64 a) := HN_4.out.cell 0
    have z_N0 := HN_4.out.frozen 0
    have r_N1 : v4.cell? ⟨w.heap.size, 1, none⟩ = some (.int .i64 b) := HN_4.out.cell 1
    have z_N1 := HN_4.out.frozen 1
    have r_N2 : v4.cell? ⟨w.heap.size, 2, none⟩ = some (.int .i64 c) := HN_4.out.cell 2
    have z_N2 := HN_4.out.frozen 2
    have r_N3 : v4.cell? ⟨w.heap.size, 3, none⟩ = some (.int .i64 d) := HN_4.out.cell 3
    have z_N3 := HN_4.out.frozen 3
    have r_N4 : v4.cell? ⟨w.heap.size, 4, none⟩ = some (.int .i64 f) := HN_4.out.cell 4
    have z_N4 := HN_4.out.frozen 4
    have lt_R := HR_4.out.lt
    have r_R0 : v4.cell? ⟨(w.heap.size + 1), 0, none⟩ = some (.int .i64 0) := HR_4.out.cell 0
    have z_R0 := HR_4.out.frozen 0
    have r_R1 : v4.cell? ⟨(w.heap.size + 1), 1, none⟩ = some (.int .i64 0) := HR_4.out.cell 1
    have z_R1 := HR_4.out.frozen 1
    have r_R2 : v4.cell? ⟨(w.heap.size + 1), 2, none⟩ = some (.int .i64 0) := HR_4.out.cell 2
    have z_R2 := HR_4.out.frozen 2
    have r_R3 : v4.cell? ⟨(w.heap.size + 1), 3, none⟩ = some (.int .i64 0) := HR_4.out.cell 3
    have z_R3 := HR_4.out.frozen 3
    have r_R4 : v4.cell? ⟨(w.heap.size + 1), 4, none⟩ = some (.int .i64 0) := HR_4.out.cell 4
    have z_R4 := HR_4.out.frozen 4
    go_wp2
    refine bodyPost_ret (v := .agg #[.int .i64 a, .int .i64 b, .int .i64 c, .int .i64 u, .int .i64 f]) (by simp [results, Try.results132, go_sem, *]) rfl ⟨_, _, _, _, _, rfl, by (repeat (first | (with_reducible exact HL_4.out) | (with_reducible refine LC.far ?_ ?_ _; rotate_left; ((try dsimp only); omega)) | (with_reducible refine LC.alloc ?_ _))), by (repeat (first | (with_reducible exact HW_4.out) | (with_reducible refine wrote_far ?_ ?_ _; rotate_left; ((try dsimp only); omega)) | (with_reducible refine wrote_alloc ?_ _)))⟩
  · skip
    go_wp2_with fail
    refine calls_named ?_
    rintro v3 hv3
    have hz_3 : w.heap.size ≤ v3.heap.size := by rw [hv3]; (try simp only [size_set, World.size_alloc]); omega
    have hy_3 : v2.heap.size + 1 ≤ v3.heap.size := by rw [hv3]; (try simp only [size_set, World.size_alloc]); omega
    have HB_3 : Hid (Below w.heap.size v2 v3) := by rw [hv3]; exact (Below.refl w.heap.size v2).alloc (by (try simp only [size_set, World.size_alloc]); omega) _
    have HW_3 : Hid (Wrote w v3 (some ⟨p, 0, none⟩)) := Lib.hid (wrote_grow HW_2.out HB_3.out (Nat.le_refl _))
    have HL_3 : Hid (LC v3 p 139) := Lib.hid (HL_2.out.below HB_3.out hp)
    have HN_3 : Hid (Blk v3 w.heap.size 68 #[.int .i64 a, .int .i64 b, .int .i64 c, .int .i64 d, .int .i64 f]) := by rw [hv3]; exact (HN_2.out).alloc _
    have HR_3 : Hid (Blk v3 (w.heap.size + 1) 68 #[.int .i64 0, .int .i64 0, .int .i64 0, .int .i64 0, .int .i64 0]) := by rw [hv3]; exact (HR_2.out).alloc _
    have HQ_3 : Hid (Blk v3 v2.heap.size 2 #[.int .i64 (-1), .int .i64 1, .int .i64 2000, .int .i64 2001]) := by rw [hv3]; exact (Blk.new_at _ _ _ _ (by simp [size_set]))
    clear hv3 HW_2 HL_2 HB_3 HN_2 HR_2
    refine (l1Below_any p 4 v3 HL_3.out (by omega) (by omega)).mono ?_
    rintro e v4 ⟨t, rfl, ⟨t0, t1⟩, L_4, W_4⟩
    have hz_4 : w.heap.size ≤ v4.heap.size := Nat.le_trans hz_3 W_4.size
    have hy_4 := W_4.size
    have HW_4 := Lib.hid (wrote_trans HW_3.out W_4)
    have HL_4 := Lib.hid L_4
    have HN_4 := Lib.hid (HN_3.out.wroteA W_4 (fun a ha => by obtain rfl := Option.some.inj ha; show p ≠ w.heap.size; omega))
    have HR_4 := Lib.hid (HR_3.out.wroteA W_4 (fun a ha => by obtain rfl := Option.some.inj ha; show p ≠ (w.heap.size + 1); omega))
    have HQ_4 := Lib.hid (HQ_3.out.wroteA W_4 (fun a ha => by obtain rfl := Option.some.inj ha; show p ≠ v2.heap.size; omega))
    clear HW_3 HL_3 L_4 W_4 HN_3 HR_3 HQ_3
    obtain ⟨kt, rfl⟩ : ∃ k : Nat, t = k := ⟨t.toNat, by omega⟩
    obtain ⟨u, hu⟩ := lit_cell [-1, 1, 2000, 2001] HQ_4.out kt (by simp; omega)
    have lt_Q := HQ_4.out.lt
    clear HQ_4
    have lt_N := HN_4.out.lt
    have r_N0 : v4.cell? ⟨w.heap.size, 0, none⟩ = some (.int .i64 a) := HN_4.out.cell 0
    have z_N0 := HN_4.out.frozen 0
    have r_N1 : v4.cell? ⟨w.heap.size, 1, none⟩ = some (.int .i64 b) := HN_4.out.cell 1
    have z_N1 := HN_4.out.frozen 1
    have r_N2 : v4.cell? ⟨w.heap.size, 2, none⟩ = some (.int .i64 c) := HN_4.out.cell 2
    have z_N2 := HN_4.out.frozen 2
    have r_N3 : v4.cell? ⟨w.heap.size, 3, none⟩ = some (.int .i64 d) := HN_4.out.cell 3
    have z_N3 := HN_4.out.frozen 3
    have r_N4 : v4.cell? ⟨w.heap.size, 4, none⟩ = some (.int .i64 f) := HN_4.out.cell 4
    have z_N4 := HN_4.out.frozen 4
    have lt_R := HR_4.out.lt
    have r_R0 : v4.cell? ⟨(w.heap.size + 1), 0, none⟩ = some (.int .i64 0) := HR_4.out.cell 0
    have z_R0 := HR_4.out.frozen 0
    have r_R1 : v4.cell? ⟨(w.heap.size + 1), 1, none⟩ = some (.int .i64 0) := HR_4.out.cell 1
    have z_R1 := HR_4.out.frozen 1
    have r_R2 : v4.cell? ⟨(w.heap.size + 1), 2, none⟩ = some (.int .i64 0) := HR_4.out.cell 2
    have z_R2 := HR_4.out.frozen 2
    have r_R3 : v4.cell? ⟨(w.heap.size + 1), 3, none⟩ = some (.int .i64 0) := HR_4.out.cell 3
    have z_R3 := HR_4.out.frozen 3
    have r_R4 : v4.cell? ⟨(w.heap.size + 1), 4, none⟩ = some (.int .i64 0) := HR_4.out.cell 4
    have z_R4 := HR_4.out.frozen 4
    go_wp2
    refine bodyPost_ret (v := .agg #[.int .i64 a, .int .i64 b, .int .i64 c, .int .i64 d, .int .i64 u]) (by simp [results, Try.results132, go_sem, *]) rfl ⟨_, _, _, _, _, rfl, by (repeat (first | (with_reducible exact HL_4.out) | (with_reducible refine LC.far ?_ ?_ _; rotate_left; ((try dsimp only); omega)) | (with_reducible refine LC.alloc ?_ _))), by (repeat (first | (with_reducible exact HW_4.out) | (with_reducible refine wrote_far ?_ ?_ _; rotate_left; ((try dsimp only); omega)) | (with_reducible refine wrote_alloc ?_ _)))⟩
/-- n jobs set one behind the other. -/
def RetLJ (w : World) (p C E m : Nat) (e : Ending) (w' : World) : Prop := ∃ A n c zs, e = .returned (.slice A n c) ∧ n ≤ m ∧ Row w' w.heap.size E 5 A n c zs ∧ LC w' p C ∧ Wrote w w' (some ⟨p, 0, none⟩)
set_option maxRecDepth 100000 in
set_option maxHeartbeats 4000000 in
theorem l15Draw_any (p : Nat) (w : World) (hL : LC w p 139) : Calls Try.prog 131 #[.pointer (some ⟨p, 0, none⟩)] w (RetL w p 139 68 5 9) := by
  have HL := Lib.hid hL
  have hp := hL.lt
  clear hL
  have R0 : Row (w.alloc (.cells #[] 68)) w.heap.size 68 5 (some ⟨w.heap.size, 0, none⟩) 0 0 [] := row0p (Blk.new w _ _) (Nat.le_refl _)
  go_enter Try.func131, Try.ntmps131
  go_wp2_with fail
  refine (l1Below_any p 10 _ (HL.out.new (by (repeat' (first | (with_reducible exact Below.refl _ _) | (with_reducible assumption) | (with_reducible refine Below.alloc ?_ ?_ _) | (with_reducible refine Below.drew ?_) | (with_reducible refine Below.setCell ?_ ?_ _) | (with_reducible refine bstep (by assumption) ?_ ?_) | (with_reducible exact Nat.le_refl _) | omega | (simp [*]; done) | (simp [*]; omega))))) (by omega) (by omega)).mono ?_
  rintro e v1 ⟨x, rfl, ⟨hx0, hx1⟩, L1, W1⟩
  have R1 := rowp R0 W1 hp
  have V1 : Wrote w v1 (some ⟨p, 0, none⟩) := wrote_trans (wrote_below (by (repeat' (first | (with_reducible exact Below.refl _ _) | (with_reducible assumption) | (with_reducible refine Below.alloc ?_ ?_ _) | (with_reducible refine Below.drew ?_) | (with_reducible refine Below.setCell ?_ ?_ _) | (with_reducible refine bstep (by assumption) ?_ ?_) | (with_reducible exact Nat.le_refl _) | omega | (simp [*]; done) | (simp [*]; omega)))) _) W1
  clear R0 W1
  obtain ⟨x, rfl⟩ : ∃ k : Nat, x = k := ⟨x.toNat, by omega⟩
  go_wp2
  go_loopw [3, 4] (fun lv iv wr => ∃ (k : Nat) (A : Option Addr) (n c : Nat) (zs : List Int), k ≤ 10 ∧ n ≤ 9 ∧ iv = .int .i64 k ∧ lv = .slice A n c ∧ Row wr w.heap.size 68 5 A n c zs ∧ LC wr p 139 ∧ Wrote w wr (some ⟨p, 0, none⟩)) (fun _ iv _ => (intOf iv).toNat)
  case atStart => exact ⟨x, _, 0, 0, [], by omega, by omega, rfl, rfl, R1, L1, V1⟩
  case round =>
    obtain ⟨k, A, n, c, zs, hk10, hn, rfl, rfl, R, L, W⟩ := hrel
    have hz := W.size
    obtain ⟨l, hl, rfl⟩ := JB_of n zs R.len
    have hl9 : l.length ≤ 9 := by omega
    have hnm : n ≤ maxLen := by unfold maxLen; omega
    by_cases hk : 0 < k
    · have hk' : (0 : Int) < (k : Int) := by omega
      go_wp2_with fail
      refine (l15DrawJob_any p wr L).mono ?_
      rintro e w2 ⟨a, b, c2, d, f, rfl, L2, W2⟩
      have R2 := rowp R W2 hp
      have V2 := wrote_trans W W2
      clear R L W W2
      have e1 := addedRS_any A n c l a b c2 d f w2 R2.sl hl hnm R2.nil_of
      have hlen := addR_len l ⟨a, b, c2, d, f⟩
      generalize addR l ⟨a, b, c2, d, f⟩ = r at e1 hlen
      go_wp2_with fail
      refine e1.mono ?_
      rintro e w3 ⟨A3, c3, rfl, R3, b3⟩
      have hz2 := V2.size
      have L3 := L2.new b3
      have V3 := wrote_grow V2 b3 hz2
      clear e1
      go_wp2
      exact ⟨⟨k - 1, A3, _, c3, _, by omega, hlen, congrArg (Value.int .i64) (by omega), rfl, R3.mono hz2, L3, V3⟩, by simp [intOf]; omega⟩
    · have hk' : ¬ (0 : Int) < (k : Int) := by omega
      go_wp2_with fail
      refine (l1Below_any p 5 wr L (by omega) (by omega)).mono ?_
      rintro e w2 ⟨y, rfl, ⟨hy0, hy1⟩, L2, W2⟩
      have R2 := rowp R W2 hp
      have V2 := wrote_trans W W2
      clear R L W W2
      obtain ⟨y, rfl⟩ : ∃ k : Nat, y = k := ⟨y.toNat, by omega⟩
      go_wp2
      go_loopw [3, 5] (fun lv iv wr => ∃ (k : Nat) (A : Option Addr) (n c : Nat) (zs : List Int), k ≤ 10 ∧ n ≤ 9 ∧ iv = .int .i64 k ∧ lv = .slice A n c ∧ Row wr w.heap.size 68 5 A n c zs ∧ LC wr p 139 ∧ Wrote w wr (some ⟨p, 0, none⟩)) (fun _ iv _ => (intOf iv).toNat)
      case atStart => exact ⟨y, _, n, c, _, by omega, by omega, rfl, rfl, R2, L2, V2⟩
      case round =>
        clear R2 L2 V2 hl hl9 hnm
        obtain ⟨k, A, n, c, zs, hk10, hn, rfl, rfl, R, L, W⟩ := hrel
        have hz := W.size
        obtain ⟨l, hl, rfl⟩ := JB_of n zs R.len
        have hnm : n ≤ maxLen := by unfold maxLen; omega
        by_cases hk : 0 < k
        · have hk' : (0 : Int) < (k : Int) := by omega
          by_cases hn0 : 0 < n
          · have hn0' : (0 : Int) < (n : Int) := by omega
            obtain ⟨b, off, rfl, hb, hcells⟩ := sl_jobs R.sl hn0
            have hids := fun i hi => (hcells i hi).1
            have HI := Lib.hid hids
            clear hcells hids
            have hbw := R.ge _ rfl
            have hbp : b ≠ p := by have : w.heap.size ≤ b := hbw; omega
            have hne : some b ≠ (some (⟨p, 0, none⟩ : Addr)).map (·.block) := ne_map (fun a ha => by obtain rfl := Option.some.inj ha; exact Ne.symm hbp)
            have HNE := Lib.hid hne
            clear hne
            have HRR := Lib.hid R
            have HLL := Lib.hid L
            have HWW := Lib.hid W
            have HLD : Hid (LC wr.drew p 139) := L
            have hnI0 : (0 : Int) < (n : Int) := by omega
            have hnI1 : (n : Int) ≤ 256 := by omega
            have hcA := Lib.hid (l1Below_any p (n : Int) wr.drew HLD.out hnI0 hnI1)
            have hcB := Lib.hid (fun (v : World) (L : LC v p 139) => l1Below_any p 30 v L (by decide) (by decide))
            clear R L W
            go_wp2_with fail
            go_region_held_law (fun w' => ∀ o, w'.cell? ⟨b, o, none⟩ = wr.cell? ⟨b, o, none⟩) (first | assumption | exact (fun o => rfl)) (first | (go_at_call 104; (with_reducible refine hcA.out.mono ?_); rintro e v2 ⟨x, rfl, ⟨hx0, hx1⟩, L2, W2⟩; replace W2 : Wrote wr v2 (some ⟨p, 0, none⟩) := ⟨W2.os, W2.tape, W2.output, W2.size, W2.block⟩; obtain ⟨x, rfl⟩ : ∃ k : Nat, x = k := ⟨x.toNat, by omega⟩; have hxn : x < n := (by omega); have hid0 := HI.out x hxn; generalize (l.getD x default).i = idv at hid0; have hS2 : ∀ o, v2.cell? ⟨b, o, none⟩ = wr.cell? ⟨b, o, none⟩ := fun o => World.cell?_of_block (World.grownBy.block W2 b hb HNE.out); have hz2 := W2.size) | (go_at_call 104; (with_reducible refine (hcB.out v2 L2).mono ?_); rintro e v3 ⟨y3, rfl, ⟨hy30, hy31⟩, L3, W3⟩; have hb2 : b < v2.heap.size := Nat.lt_of_lt_of_le hb hz2; have hS3 : ∀ o, v3.cell? ⟨b, o, none⟩ = wr.cell? ⟨b, o, none⟩ := fun o => (World.cell?_of_block (World.grownBy.block W3 b hb2 HNE.out)).trans (hS2 o); have R3 := rowp (rowp HRR.out W2 hp) W3 hp; have V3 := wrote_trans (wrote_trans HWW.out W2) W3; have hz3 := W3.size; have hwr : IntKind.i64.wrap (1 + y3) = 1 + y3 := (by rw [IntKind.wrap_i64]; omega)) | (go_at_call 46; have e1 := firedRS_any (some ⟨b, off, none⟩) n c l idv (1 + y3) v3 R3.sl hl hnm R3.nil_of; have hlen := firedR_len l idv (1 + y3); generalize firedR l idv (1 + y3) = r at e1 hlen; refine e1.mono ?_; rintro e v4 ⟨A4, c4, rfl, R4, b4⟩; have L4 := L3.new b4; have hzv3 := V3.size; have V4 := wrote_grow V3 b4 hzv3; have hS4 : ∀ o, v4.cell? ⟨b, o, none⟩ = wr.cell? ⟨b, o, none⟩ := fun o => (b4.cell (p := ⟨b, o, none⟩) (Nat.lt_of_lt_of_le hb2 hz3)).trans (hS3 o)))
            clear hS2 hS3 hS4 e1 hwr
            go_wp2
            exact ⟨⟨k - 1, A4, _, c4, _, by omega, hlen, congrArg (Value.int .i64) (by omega), rfl, R4.mono hzv3, L4, V4⟩, by simp [intOf]; omega⟩
          · have hn0' : ¬ (0 : Int) < (n : Int) := by omega
            go_wp2
            go_ret
            exact ⟨A, n, c, _, rfl, hn, R, L, W⟩
        · have hk' : ¬ (0 : Int) < (k : Int) := by omega
          go_wp2
          go_ret
          exact ⟨A, n, c, _, rfl, hn, R, L, W⟩
set_option maxRecDepth 100000 in
set_option maxHeartbeats 4000000 in
theorem l15DrawAny_any (p : Nat) (w : World) (hL : LC w p 139) : Calls Try.prog 88 #[.pointer (some ⟨p, 0, none⟩)] w (RetL w p 139 68 5 10) := by
  have HL := Lib.hid hL
  have hp := hL.lt
  clear hL
  go_enter Try.func88, Try.ntmps88
  go_wp2_with fail
  refine (l15Draw_any p w HL.out).mono ?_
  rintro e w1 ⟨A, n, c, zs, rfl, hn, R1, L1, W1⟩
  go_wp2_with fail
  refine (l1Once_any p 6 w1 L1 (by omega) (by omega)).mono ?_
  rintro e w2 ⟨b, rfl, L2, W2⟩
  have R2 := rowp R1 W2 hp
  have V2 := wrote_trans W1 W2
  clear R1 L1 W1 W2
  cases b with
  | false =>
    go_wp2
    go_ret
    exact ⟨A, n, c, zs, rfl, by omega, R2, L2, V2⟩
  | true =>
    by_cases hn0 : 0 < n
    · have hn0' : (0 : Int) < (n : Int) := by omega
      go_wp2_with fail
      refine (l1Below_any p n w2 L2 (by omega) (by omega)).mono ?_
      rintro e w3 ⟨x, rfl, ⟨hx0, hx1⟩, L3, W3⟩
      have R3 := rowp R2 W3 hp
      have V3 := wrote_trans V2 W3
      clear R2 L2 V2 W3
      obtain ⟨k, rfl⟩ : ∃ k : Nat, x = k := ⟨x.toNat, by omega⟩
      have hkn : k < n := by omega
      go_wp2_with fail
      refine (l1Below_any p 3 w3 L3 (by omega) (by omega)).mono ?_
      rintro e w4 ⟨y, rfl, ⟨hy0, hy1⟩, L4, W4⟩
      have R4 := rowp R3 W4 hp
      have V4 := wrote_trans V3 W4
      clear R3 L3 V3 W4
      obtain ⟨l, hl, rfl⟩ := JB_of n zs R4.len
      obtain ⟨g, cs, rfl, hlo, K, h1, h2, h3, h4⟩ := R4.blk hn0
      obtain ⟨b, off, hA, hb, hcells⟩ := sl_jobs R4.sl hn0
      injection hA with hA
      injection hA with hA1 hA2
      subst hA1
      subst hA2
      simp only [Nat.zero_add] at hcells
      obtain ⟨c0, c1, c2, c3, c4⟩ := hcells k hkn
      obtain ⟨d0, d1, d2, d3, d4⟩ := hcells 0 hn0
      clear hcells d0 d1 d2 d3 h4 K
      simp only [Nat.zero_mul, Nat.zero_add] at d4
      generalize l.getD k default = j at c0 c1 c2 c3 c4
      generalize l.getD 0 default = j0 at d4
      obtain ⟨a, b, c', d, f⟩ := j
      obtain ⟨_, _, _, _, f0⟩ := j0
      simp only at c0 c1 c2 c3 c4 d4
      have HR := Lib.hid R4
      have HV := Lib.hid V4
      have HL4 := Lib.hid L4
      clear R4 V4 L4
      rcases (by omega : y = 0 ∨ y = 1 ∨ y = 2) with rfl | rfl | rfl
      · go_wp2_with fail
        refine (l15BentJob_any p a b c' d f w4 HL4.out).mono ?_
        rintro e w5 ⟨a5, b5, c5, d5, f5, rfl, L5, W5⟩
        have R5 := rowp HR.out W5 hp
        have V5 := wrote_trans HV.out W5
        clear c0 c1 c2 c3 c4 d4
        obtain ⟨g', cs', hA', _, K', h1', _, h3', _⟩ := R5.blk hn0
        injection hA' with hA'
        injection hA' with hA'
        subst hA'
        obtain ⟨u0, g0⟩ := K'.has (i := k * 5) (by omega)
        obtain ⟨u1, g1⟩ := K'.has (i := k * 5 + 1) (by omega)
        obtain ⟨u2, g2⟩ := K'.has (i := k * 5 + 2) (by omega)
        obtain ⟨u3, g3⟩ := K'.has (i := k * 5 + 3) (by omega)
        obtain ⟨u4, g4⟩ := K'.has (i := k * 5 + 4) (by omega)
        have z0 := K'.frozen (k * 5)
        have z1 := K'.frozen (k * 5 + 1)
        have z2 := K'.frozen (k * 5 + 2)
        have z3 := K'.frozen (k * 5 + 3)
        have z4 := K'.frozen (k * 5 + 4)
        have ltg := K'.lt
        obtain ⟨_, Q0⟩ := row_put R5 hn0 (k * 5) a5 (by omega)
        obtain ⟨_, Q1⟩ := row_put Q0 hn0 (k * 5 + 1) b5 (by omega)
        obtain ⟨_, Q2⟩ := row_put Q1 hn0 (k * 5 + 2) c5 (by omega)
        obtain ⟨_, Q3⟩ := row_put Q2 hn0 (k * 5 + 3) d5 (by omega)
        obtain ⟨zq, Q4⟩ := row_put Q3 hn0 (k * 5 + 4) f5 (by omega)
        have HQ := Lib.hid Q4
        have HL_5 := Lib.hid L5
        have HW_5 := Lib.hid V5
        clear Q0 Q1 Q2 Q3 Q4 K' R5 L5 V5 W5
        go_wp2
        go_ret
        exact ⟨some ⟨g, 0, none⟩, n, c, zq, rfl, by omega, HQ.out, by (repeat (first | (with_reducible exact HL_5.out) | (with_reducible refine LC.far ?_ ?_ _; rotate_left; ((try dsimp only); omega)) | (with_reducible refine LC.alloc ?_ _))), by (repeat (first | (with_reducible exact HW_5.out) | (with_reducible refine wrote_far ?_ ?_ _; rotate_left; ((try dsimp only); omega)) | (with_reducible refine wrote_alloc ?_ _)))⟩
      · have L2' := HL4.out.new ((Below.refl w4.heap.size w4).alloc (Nat.le_refl _) (.cells #[.int .i64 a, .int .i64 b, .int .i64 c', .int .i64 d, .int .i64 f] 68))
        have V2' := wrote_grow HV.out ((Below.refl w4.heap.size w4).alloc (Nat.le_refl _) (.cells #[.int .i64 a, .int .i64 b, .int .i64 c', .int .i64 d, .int .i64 f] 68)) HV.out.size
        have HH := Lib.hid (And.intro L2' V2')
        have hwz := HV.out.size
        clear L2' V2' d4
        go_wp2_with (at_builtin; refine wpList_append_row rfl _ _ 51 rfl 68 (.agg #[.int .i64 0, .int .i64 0, .int .i64 0, .int .i64 0, .int .i64 0]) 5 40 Try.underlying51 info_Job (by first | kernel_rfl | simp [Value.cells]) (by decide) w.heap.size (some ⟨g, 0, none⟩) n c (JB l) rfl (World.ownsRow.alloc HR.out _) ⟨w4.heap.size, 0, none⟩ 1 1 [a, b, c', d, f] rfl rfl (cell_five_at _ _ _ _ _ _ _ _ rfl) (by unfold maxLen; omega) (by omega) (by simp; omega) ?_; intro A5 c5 w5 R5 B5)
        go_ret
        exact ⟨A5, _, c5, _, rfl, by omega, R5, HH.out.1.below B5 hp, wrote_grow HH.out.2 B5 (Nat.le_refl _)⟩
      · obtain ⟨g', cs', hA', _, K', h1', _, h3', _⟩ := HR.out.blk hn0
        injection hA' with hA'
        injection hA' with hA'
        subst hA'
        have z4 := K'.frozen (k * 5 + 4)
        have ltg := K'.lt
        obtain ⟨zq, Q4⟩ := row_put HR.out hn0 (k * 5 + 4) f0 (by omega)
        have HQ := Lib.hid Q4
        have HL_5 := HL4
        have HW_5 := HV
        clear Q4 K' c0 c1 c2 c3
        go_wp2
        go_ret
        exact ⟨some ⟨g, 0, none⟩, n, c, zq, rfl, by omega, HQ.out, by (repeat (first | (with_reducible exact HL_5.out) | (with_reducible refine LC.far ?_ ?_ _; rotate_left; ((try dsimp only); omega)) | (with_reducible refine LC.alloc ?_ _))), by (repeat (first | (with_reducible exact HW_5.out) | (with_reducible refine wrote_far ?_ ?_ _; rotate_left; ((try dsimp only); omega)) | (with_reducible refine wrote_alloc ?_ _)))⟩
    · have hn0' : ¬ (0 : Int) < (n : Int) := by omega
      go_wp2
      go_ret
      exact ⟨A, n, c, zs, rfl, by omega, R2, L2, V2⟩
set_option maxRecDepth 100000 in
theorem DrawOrdersRow_any (A : Option Addr) (n cap : Nat) (bs : List Int) (w : World) (hS : SlB w A n bs) (hn : n ≤ 4096) :
    Calls Try.prog 34 #[.slice A n cap] w fun e w' => ∃ A' m c zs, e = .returned (.slice A' m c) ∧ m ≤ 10 ∧ Row w' w.heap.size 68 5 A' m c zs ∧ Below w.heap.size w w' := by
  have HS := Lib.hid hS
  clear hS
  go_enter Try.func34, Try.ntmps34
  go_wp2_with fail
  refine (l1New_any A n cap bs w HS.out hn).mono ?_
  rintro e w1 ⟨rfl, L1, f1⟩
  have hz := f1.size
  go_wp2_with fail
  refine (l15DrawAny_any _ w1 L1).mono ?_
  rintro e w2 ⟨A2, m, c, zs, rfl, hm, R2, L2, W2⟩
  have f2 := W2.below f1 f1.size (fun x hx => by obtain rfl := Option.some.inj hx; exact Nat.le_refl _)
  go_wp2
  go_ret
  exact ⟨A2, m, c, zs, rfl, hm, R2.mono hz, f2⟩
set_option maxRecDepth 100000 in
theorem DrawDueJobs_any (A : Option Addr) (n cap : Nat) (bs : List Int) (w : World) (hS : SlB w A n bs) (hn : n ≤ 4096) :
    Calls Try.prog 67 #[.slice A n cap] w fun e w' => ∃ A' m c zs t, e = .returned (.tuple #[.slice A' m c, .int .i64 t]) ∧ m ≤ 10 ∧ Row w' w.heap.size 68 5 A' m c zs ∧ Below w.heap.size w w' := by
  have HS := Lib.hid hS
  clear hS
  go_enter Try.func67, Try.ntmps67
  go_wp2_with fail
  refine (l1New_any A n cap bs w HS.out hn).mono ?_
  rintro e w1 ⟨rfl, L1, f1⟩
  have hz := f1.size
  have hl := L1.lt
  go_wp2_with fail
  refine (l15DrawAny_any _ w1 L1).mono ?_
  rintro e w2 ⟨A2, m, c, zs, rfl, hm, R2, L2, W2⟩
  have f2 := W2.below f1 f1.size (fun x hx => by obtain rfl := Option.some.inj hx; exact Nat.le_refl _)
  go_wp2_with fail
  refine (l1Num_any _ 45 w2 L2 (by omega) (by omega)).mono ?_
  rintro e w3 ⟨x, rfl, _, L3, W3⟩
  have f3 := W3.below f2 f2.size (fun x hx => by obtain rfl := Option.some.inj hx; exact Nat.le_refl _)
  have R3 := rowp R2 W3 hl
  go_wp2
  refine bodyPost_ret (v := .tuple #[.slice A2 m c, .int .i64 x]) (by simp [results, Try.results67, go_sem, *]) rfl ⟨A2, m, c, zs, x, rfl, hm, R3.mono hz, f3⟩
end Go.Proofs.Ytgpllffiahccjaa

/- The reference's draws of leases and times; of single jobs. -/
import Derived.Test.YtgpllffiahccjaaD2
import Derived.Deep.RegionHeldLaw
namespace Go.Proofs.Ytgpllffiahccjaa
set_option linter.unusedSimpArgs false
set_option linter.unusedVariables false
attribute [local go_sem] n_lt2 n_lt3 n_lt4 n_le2 n_le3
open Go.RowKit
attribute [local go_sem] Ext.cell Ext.frozen
theorem LC.far {w : World} {p C : Nat} (h : LC w p C) {q : Addr} (hq : p < q.block) (u : Value) : LC (w.setCell q u) p C :=
  h.keep (Nat.le_of_eq (size_set w q u).symm) (fun i hi => Below.heap_setCell w q u i (by omega))
theorem LC.alloc {w : World} {p C : Nat} (h : LC w p C) (o : Obj) : LC (w.alloc o) p C := h.new ((Below.refl _ _).alloc (Nat.le_refl _) o)
theorem wrote_far {w v : World} {p : Nat} (h : Wrote w v (some ⟨p, 0, none⟩)) {q : Addr} (hq : w.heap.size ≤ q.block) (u : Value) : Wrote w (v.setCell q u) (some ⟨p, 0, none⟩) :=
  wrote_grow h ((Below.refl w.heap.size v).setCell hq u) (Nat.le_refl _)
theorem wrote_alloc {w v : World} {p : Nat} (h : Wrote w v (some ⟨p, 0, none⟩)) (o : Obj) : Wrote w (v.alloc o) (some ⟨p, 0, none⟩) :=
  wrote_grow h ((Below.refl v.heap.size v).alloc (Nat.le_refl _) o) h.size
set_option maxRecDepth 100000 in
set_option maxHeartbeats 4000000 in
theorem l16Draw_any (p : Nat) (w : World) (hL : LC w p 139) : Calls Try.prog 126 #[.pointer (some ⟨p, 0, none⟩)] w (fun e w' => ∃ h e' u, e = .returned (.agg #[.int .i64 h, .int .i64 e', .int .i64 u]) ∧ LC w' p 139 ∧ Wrote w w' (some ⟨p, 0, none⟩)) := by
  have HL_0 := Lib.hid hL
  have hp := hL.lt
  clear hL
  have HW_0 : Hid (Wrote w w (some ⟨p, 0, none⟩)) := Lib.hid (wrote_refl _ _)
  have hz_0 : w.heap.size ≤ w.heap.size := Nat.le_refl _
  go_enter Try.func126, Try.ntmps126
  go_wp2_with fail
  refine calls_named ?_
  rintro v1 hv1
  have hz_1 : w.heap.size ≤ v1.heap.size := by rw [hv1]; (try simp only [size_set, World.size_alloc]); omega
  have hy_1 : w.heap.size + 1 ≤ v1.heap.size := by rw [hv1]; (try simp only [size_set, World.size_alloc]); omega
  have HB_1 : Hid (Below w.heap.size w v1) := by rw [hv1]; exact (Below.refl w.heap.size w).alloc (by (try simp only [size_set, World.size_alloc]); omega) _
  have HW_1 : Hid (Wrote w v1 (some ⟨p, 0, none⟩)) := Lib.hid (wrote_grow HW_0.out HB_1.out (Nat.le_refl _))
  have HL_1 : Hid (LC v1 p 139) := Lib.hid (HL_0.out.below HB_1.out hp)
  have HR_1 : Hid (Blk v1 w.heap.size 28 #[.int .i64 0, .int .i64 0, .int .i64 0]) := by rw [hv1]; exact (Blk.new_at _ _ _ _ (by simp [size_set]))
  clear hv1 HW_0 HL_0 HB_1 
  refine (l1Once_any p 8 v1 HL_1.out (by omega) (by omega)).mono ?_
  rintro e v2 ⟨b, rfl, L_2, W_2⟩
  have hz_2 : w.heap.size ≤ v2.heap.size := Nat.le_trans hz_1 W_2.size
  have hy_2 := W_2.size
  have HW_2 := Lib.hid (wrote_trans HW_1.out W_2)
  have HL_2 := Lib.hid L_2
  have HR_2 := Lib.hid (HR_1.out.wroteA W_2 (fun a ha => by obtain rfl := Option.some.inj ha; show p ≠ w.heap.size; omega))
  clear HW_1 HL_1 L_2 W_2 HR_1
  cases b with
  | true =>
    have lt_R := HR_2.out.lt
    have r_R0 : v2.cell? ⟨w.heap.size, 0, none⟩ = some (.int .i64 0) := HR_2.out.cell 0
    have z_R0 := HR_2.out.frozen 0
    have r_R1 : v2.cell? ⟨w.heap.size, 1, none⟩ = some (.int .i64 0) := HR_2.out.cell 1
    have z_R1 := HR_2.out.frozen 1
    have r_R2 : v2.cell? ⟨w.heap.size, 2, none⟩ = some (.int .i64 0) := HR_2.out.cell 2
    have z_R2 := HR_2.out.frozen 2
    go_wp2
    refine bodyPost_ret (v := .agg #[.int .i64 0, .int .i64 0, .int .i64 0]) (by simp [results, Try.results126, go_sem, *]) rfl ⟨_, _, _, rfl, by (repeat (first | (with_reducible exact HL_2.out) | (with_reducible refine LC.far ?_ ?_ _; rotate_left; ((try dsimp only); omega)) | (with_reducible refine LC.alloc ?_ _))), by (repeat (first | (with_reducible exact HW_2.out) | (with_reducible refine wrote_far ?_ ?_ _; rotate_left; ((try dsimp only); omega)) | (with_reducible refine wrote_alloc ?_ _)))⟩
  | false =>
    go_wp2_with fail
    refine (l1Below_any p 2 v2 HL_2.out (by omega) (by omega)).mono ?_
    rintro e v3 ⟨x, rfl, ⟨x0, x1⟩, L_3, W_3⟩
    have hz_3 : w.heap.size ≤ v3.heap.size := Nat.le_trans hz_2 W_3.size
    have hy_3 := W_3.size
    have HW_3 := Lib.hid (wrote_trans HW_2.out W_3)
    have HL_3 := Lib.hid L_3
    have HR_3 := Lib.hid (HR_2.out.wroteA W_3 (fun a ha => by obtain rfl := Option.some.inj ha; show p ≠ w.heap.size; omega))
    clear HW_2 HL_2 L_3 W_3 HR_2
    go_wp2_with fail
    refine (l1Below_any p 5 v3 HL_3.out (by omega) (by omega)).mono ?_
    rintro e v4 ⟨y, rfl, ⟨y0, y1⟩, L_4, W_4⟩
    have hz_4 : w.heap.size ≤ v4.heap.size := Nat.le_trans hz_3 W_4.size
    have hy_4 := W_4.size
    have HW_4 := Lib.hid (wrote_trans HW_3.out W_4)
    have HL_4 := Lib.hid L_4
    have HR_4 := Lib.hid (HR_3.out.wroteA W_4 (fun a ha => by obtain rfl := Option.some.inj ha; show p ≠ w.heap.size; omega))
    clear HW_3 HL_3 L_4 W_4 HR_3
    go_wp2_with fail
    refine (l1Below_any p 60 v4 HL_4.out (by omega) (by omega)).mono ?_
    rintro e v5 ⟨z, rfl, ⟨z0, z1⟩, L_5, W_5⟩
    have hz_5 : w.heap.size ≤ v5.heap.size := Nat.le_trans hz_4 W_5.size
    have hy_5 := W_5.size
    have HW_5 := Lib.hid (wrote_trans HW_4.out W_5)
    have HL_5 := Lib.hid L_5
    have HR_5 := Lib.hid (HR_4.out.wroteA W_5 (fun a ha => by obtain rfl := Option.some.inj ha; show p ≠ w.heap.size; omega))
    clear HW_4 HL_4 L_5 W_5 HR_4
    go_wp2_with fail
    refine calls_named ?_
    rintro v6 hv6
    have hz_6 : w.heap.size ≤ v6.heap.size := by rw [hv6]; (try simp only [size_set, World.size_alloc]); omega
    have hy_6 : v5.heap.size + 1 ≤ v6.heap.size := by rw [hv6]; (try simp only [size_set, World.size_alloc]); omega
    have HB_6 : Hid (Below w.heap.size v5 v6) := by rw [hv6]; exact (Below.refl w.heap.size v5).alloc (by (try simp only [size_set, World.size_alloc]); omega) _
    have HW_6 : Hid (Wrote w v6 (some ⟨p, 0, none⟩)) := Lib.hid (wrote_grow HW_5.out HB_6.out (Nat.le_refl _))
    have HL_6 : Hid (LC v6 p 139) := Lib.hid (HL_5.out.below HB_6.out hp)
    have HR_6 : Hid (Blk v6 w.heap.size 28 #[.int .i64 0, .int .i64 0, .int .i64 0]) := by rw [hv6]; exact (HR_5.out).alloc _
    have HN_6 : Hid (Blk v6 v5.heap.size 28 #[.int .i64 (2 + x), .int .i64 (1 + y), .int .i64 (1 + z)]) := by rw [hv6]; exact (Blk.new_at _ _ _ _ (by simp [size_set]))
    clear hv6 HW_5 HL_5 HB_6 HR_5
    refine (l1Once_any p 8 v6 HL_6.out (by omega) (by omega)).mono ?_
    rintro e v7 ⟨b1, rfl, L_7, W_7⟩
    have hz_7 : w.heap.size ≤ v7.heap.size := Nat.le_trans hz_6 W_7.size
    have hy_7 := W_7.size
    have HW_7 := Lib.hid (wrote_trans HW_6.out W_7)
    have HL_7 := Lib.hid L_7
    have HR_7 := Lib.hid (HR_6.out.wroteA W_7 (fun a ha => by obtain rfl := Option.some.inj ha; show p ≠ w.heap.size; omega))
    have HN_7 := Lib.hid (HN_6.out.wroteA W_7 (fun a ha => by obtain rfl := Option.some.inj ha; show p ≠ v5.heap.size; omega))
    clear HW_6 HL_6 L_7 W_7 HR_6 HN_6
    cases b1 with
    | true =>
      go_wp2_with fail
      refine (l1Below_any p 2 v7 HL_7.out (by omega) (by omega)).mono ?_
      rintro e v8 ⟨q, rfl, ⟨q0, q1⟩, L_8, W_8⟩
      have hz_8 : w.heap.size ≤ v8.heap.size := Nat.le_trans hz_7 W_8.size
      have hy_8 := W_8.size
      have HW_8 := Lib.hid (wrote_trans HW_7.out W_8)
      have HL_8 := Lib.hid L_8
      have HR_8 := Lib.hid (HR_7.out.wroteA W_8 (fun a ha => by obtain rfl := Option.some.inj ha; show p ≠ w.heap.size; omega))
      have HN_8 := Lib.hid (HN_7.out.wroteA W_8 (fun a ha => by obtain rfl := Option.some.inj ha; show p ≠ v5.heap.size; omega))
      clear HW_7 HL_7 L_8 W_8 HR_7 HN_7
      have lt_N := HN_8.out.lt
      have r_N0 : v8.cell? ⟨v5.heap.size, 0, none⟩ = some (.int .i64 (2 + x)) := HN_8.out.cell 0
      have z_N0 := HN_8.out.frozen 0
      have r_N1 : v8.cell? ⟨v5.heap.size, 1, none⟩ = some (.int .i64 (1 + y)) := HN_8.out.cell 1
      have z_N1 := HN_8.out.frozen 1
      have r_N2 : v8.cell? ⟨v5.heap.size, 2, none⟩ = some (.int .i64 (1 + z)) := HN_8.out.cell 2
      have z_N2 := HN_8.out.frozen 2
      go_wp2_with fail
      refine calls_named ?_
      rintro v9 hv9
      have hz_9 : w.heap.size ≤ v9.heap.size := by rw [hv9]; (try simp only [size_set, World.size_alloc]); omega
      have hy_9 : v8.heap.size + 0 ≤ v9.heap.size := by rw [hv9]; (try simp only [size_set, World.size_alloc]); omega
      have HB_9 : Hid (Below w.heap.size v8 v9) := by rw [hv9]; exact (Below.refl w.heap.size v8).setCell (p := ⟨v5.heap.size, 1, none⟩) (show w.heap.size ≤ v5.heap.size by omega) _
      have HW_9 : Hid (Wrote w v9 (some ⟨p, 0, none⟩)) := Lib.hid (wrote_grow HW_8.out HB_9.out (Nat.le_refl _))
      have HL_9 : Hid (LC v9 p 139) := Lib.hid (HL_8.out.below HB_9.out hp)
      have HR_9 : Hid (Blk v9 w.heap.size 28 #[.int .i64 0, .int .i64 0, .int .i64 0]) := by rw [hv9]; exact (HR_8.out).far (p := ⟨v5.heap.size, 1, none⟩) (show w.heap.size ≠ v5.heap.size by omega) _
      have HN_9 : Hid (Blk v9 v5.heap.size 28 #[.int .i64 (2 + x), .int .i64 (1000 - q), .int .i64 (1 + z)]) := by rw [hv9]; exact (HN_8.out).set_ 1 _
      clear lt_N r_N0 z_N0 r_N1 z_N1 r_N2 z_N2
      clear hv9 HW_8 HL_8 HB_9 HR_8 HN_8
      refine (l1Once_any p 8 v9 HL_9.out (by omega) (by omega)).mono ?_
      rintro e v10 ⟨b2, rfl, L_10, W_10⟩
      have hz_10 : w.heap.size ≤ v10.heap.size := Nat.le_trans hz_9 W_10.size
      have hy_10 := W_10.size
      have HW_10 := Lib.hid (wrote_trans HW_9.out W_10)
      have HL_10 := Lib.hid L_10
      have HR_10 := Lib.hid (HR_9.out.wroteA W_10 (fun a ha => by obtain rfl := Option.some.inj ha; show p ≠ w.heap.size; omega))
      have HN_10 := Lib.hid (HN_9.out.wroteA W_10 (fun a ha => by obtain rfl := Option.some.inj ha; show p ≠ v5.heap.size; omega))
      clear HW_9 HL_9 L_10 W_10 HR_9 HN_9
      cases b2 with
      | true =>
        go_wp2_with fail
        refine calls_named ?_
        rintro v11 hv11
        have hz_11 : w.heap.size ≤ v11.heap.size := by rw [hv11]; (try simp only [size_set, World.size_alloc]); omega
        have hy_11 : v10.heap.size + 1 ≤ v11.heap.size := by rw [hv11]; (try simp only [size_set, World.size_alloc]); omega
        have HB_11 : Hid (Below w.heap.size v10 v11) := by rw [hv11]; exact (Below.refl w.heap.size v10).alloc (by (try simp only [size_set, World.size_alloc]); omega) _
        have HW_11 : Hid (Wrote w v11 (some ⟨p, 0, none⟩)) := Lib.hid (wrote_grow HW_10.out HB_11.out (Nat.le_refl _))
        have HL_11 : Hid (LC v11 p 139) := Lib.hid (HL_10.out.below HB_11.out hp)
        have HR_11 : Hid (Blk v11 w.heap.size 28 #[.int .i64 0, .int .i64 0, .int .i64 0]) := by rw [hv11]; exact (HR_10.out).alloc _
        have HN_11 : Hid (Blk v11 v5.heap.size 28 #[.int .i64 (2 + x), .int .i64 (1000 - q), .int .i64 (1 + z)]) := by rw [hv11]; exact (HN_10.out).alloc _
        have HQ_11 : Hid (Blk v11 v10.heap.size 2 #[.int .i64 999999, .int .i64 1000000, .int .i64 1000001, .int .i64 1001000]) := by rw [hv11]; exact (Blk.new_at _ _ _ _ (by simp [size_set]))
        clear hv11 HW_10 HL_10 HB_11 HR_10 HN_10
        refine (l1Below_any p 4 v11 HL_11.out (by omega) (by omega)).mono ?_
        rintro e v12 ⟨s, rfl, ⟨s0, s1⟩, L_12, W_12⟩
        have hz_12 : w.heap.size ≤ v12.heap.size := Nat.le_trans hz_11 W_12.size
        have hy_12 := W_12.size
        have HW_12 := Lib.hid (wrote_trans HW_11.out W_12)
        have HL_12 := Lib.hid L_12
        have HR_12 := Lib.hid (HR_11.out.wroteA W_12 (fun a ha => by obtain rfl := Option.some.inj ha; show p ≠ w.heap.size; omega))
        have HN_12 := Lib.hid (HN_11.out.wroteA W_12 (fun a ha => by obtain rfl := Option.some.inj ha; show p ≠ v5.heap.size; omega))
        have HQ_12 := Lib.hid (HQ_11.out.wroteA W_12 (fun a ha => by obtain rfl := Option.some.inj ha; show p ≠ v10.heap.size; omega))
        clear HW_11 HL_11 L_12 W_12 HR_11 HN_11 HQ_11
        obtain ⟨ks, rfl⟩ : ∃ k : Nat, s = k := ⟨s.toNat, by omega⟩
        obtain ⟨u, hu⟩ := lit_cell [999999, 1000000, 1000001, 1001000] HQ_12.out ks (by simp; omega)
        have lt_Q := HQ_12.out.lt
        clear HQ_12
        have lt_N := HN_12.out.lt
        have r_N0 : v12.cell? ⟨v5.heap.size, 0, none⟩ = some (.int .i64 (2 + x)) := HN_12.out.cell 0
        have z_N0 := HN_12.out.frozen 0
        have r_N1 : v12.cell? ⟨v5.heap.size, 1, none⟩ = some (.int .i64 (1000 - q)) := HN_12.out.cell 1
        have z_N1 := HN_12.out.frozen 1
        have r_N2 : v12.cell? ⟨v5.heap.size, 2, none⟩ = some (.int .i64 (1 + z)) := HN_12.out.cell 2
        have z_N2 := HN_12.out.frozen 2
        have lt_R := HR_12.out.lt
        have r_R0 : v12.cell? ⟨w.heap.size, 0, none⟩ = some (.int .i64 0) := HR_12.out.cell 0
        have z_R0 := HR_12.out.frozen 0
        have r_R1 : v12.cell? ⟨w.heap.size, 1, none⟩ = some (.int .i64 0) := HR_12.out.cell 1
        have z_R1 := HR_12.out.frozen 1
        have r_R2 : v12.cell? ⟨w.heap.size, 2, none⟩ = some (.int .i64 0) := HR_12.out.cell 2
        have z_R2 := HR_12.out.frozen 2
        go_wp2
        refine bodyPost_ret (v := .agg #[.int .i64 (2 + x), .int .i64 (1000 - q), .int .i64 u]) (by simp [results, Try.results126, go_sem, *]) rfl ⟨_, _, _, rfl, by (repeat (first | (with_reducible exact HL_12.out) | (with_reducible refine LC.far ?_ ?_ _; rotate_left; ((try dsimp only); omega)) | (with_reducible refine LC.alloc ?_ _))), by (repeat (first | (with_reducible exact HW_12.out) | (with_reducible refine wrote_far ?_ ?_ _; rotate_left; ((try dsimp only); omega)) | (with_reducible refine wrote_alloc ?_ _)))⟩
      | false =>
        have lt_N := HN_10.out.lt
        have r_N0 : v10.cell? ⟨v5.heap.size, 0, none⟩ = some (.int .i64 (2 + x)) := HN_10.out.cell 0
        have z_N0 := HN_10.out.frozen 0
        have r_N1 : v10.cell? ⟨v5.heap.size, 1, none⟩ = some (.int .i64 (1000 - q)) := HN_10.out.cell 1
        have z_N1 := HN_10.out.frozen 1
        have r_N2 : v10.cell? ⟨v5.heap.size, 2, none⟩ = some (.int .i64 (1 + z)) := HN_10.out.cell 2
        have z_N2 := HN_10.out.frozen 2
        have lt_R := HR_10.out.lt
        have r_R0 : v10.cell? ⟨w.heap.size, 0, none⟩ = some (.int .i64 0) := HR_10.out.cell 0
        have z_R0 := HR_10.out.frozen 0
        have r_R1 : v10.cell? ⟨w.heap.size, 1, none⟩ = some (.int .i64 0) := HR_10.out.cell 1
        have z_R1 := HR_10.out.frozen 1
        have r_R2 : v10.cell? ⟨w.heap.size, 2, none⟩ = some (.int .i64 0) := HR_10.out.cell 2
        have z_R2 := HR_10.out.frozen 2
        go_wp2
        refine bodyPost_ret (v := .agg #[.int .i64 (2 + x), .int .i64 (1000 - q), .int .i64 (1 + z)]) (by simp [results, Try.results126, go_sem, *]) rfl ⟨_, _, _, rfl, by (repeat (first | (with_reducible exact HL_10.out) | (with_reducible refine LC.far ?_ ?_ _; rotate_left; ((try dsimp only); omega)) | (with_reducible refine LC.alloc ?_ _))), by (repeat (first | (with_reducible exact HW_10.out) | (with_reducible refine wrote_far ?_ ?_ _; rotate_left; ((try dsimp only); omega)) | (with_reducible refine wrote_alloc ?_ _)))⟩
    | false =>
      go_wp2_with fail
      refine (l1Once_any p 8 v7 HL_7.out (by omega) (by omega)).mono ?_
      rintro e v8 ⟨b2, rfl, L_8, W_8⟩
      have hz_8 : w.heap.size ≤ v8.heap.size := Nat.le_trans hz_7 W_8.size
      have hy_8 := W_8.size
      have HW_8 := Lib.hid (wrote_trans HW_7.out W_8)
      have HL_8 := Lib.hid L_8
      have HR_8 := Lib.hid (HR_7.out.wroteA W_8 (fun a ha => by obtain rfl := Option.some.inj ha; show p ≠ w.heap.size; omega))
      have HN_8 := Lib.hid (HN_7.out.wroteA W_8 (fun a ha => by obtain rfl := Option.some.inj ha; show p ≠ v5.heap.size; omega))
      clear HW_7 HL_7 L_8 W_8 HR_7 HN_7
      cases b2 with
      | true =>
        go_wp2_with fail
        refine calls_named ?_
        rintro v9 hv9
        have hz_9 : w.heap.size ≤ v9.heap.size := by rw [hv9]; (try simp only [size_set, World.size_alloc]); omega
        have hy_9 : v8.heap.size + 1 ≤ v9.heap.size := by rw [hv9]; (try simp only [size_set, World.size_alloc]); omega
        have HB_9 : Hid (Below w.heap.size v8 v9) := by rw [hv9]; exact (Below.refl w.heap.size v8).alloc (by (try simp only [size_set, World.size_alloc]); omega) _
        have HW_9 : Hid (Wrote w v9 (some ⟨p, 0, none⟩)) := Lib.hid (wrote_grow HW_8.out HB_9.out (Nat.le_refl _))
        have HL_9 : Hid (LC v9 p 139) := Lib.hid (HL_8.out.below HB_9.out hp)
        have HR_9 : Hid (Blk v9 w.heap.size 28 #[.int .i64 0, .int .i64 0, .int .i64 0]) := by rw [hv9]; exact (HR_8.out).alloc _
        have HN_9 : Hid (Blk v9 v5.heap.size 28 #[.int .i64 (2 + x), .int .i64 (1 + y), .int .i64 (1 + z)]) := by rw [hv9]; exact (HN_8.out).alloc _
        have HQ_9 : Hid (Blk v9 v8.heap.size 2 #[.int .i64 999999, .int .i64 1000000, .int .i64 1000001, .int .i64 1001000]) := by rw [hv9]; exact (Blk.new_at _ _ _ _ (by simp [size_set]))
        clear hv9 HW_8 HL_8 HB_9 HR_8 HN_8
        refine (l1Below_any p 4 v9 HL_9.out (by omega) (by omega)).mono ?_
        rintro e v10 ⟨s, rfl, ⟨s0, s1⟩, L_10, W_10⟩
        have hz_10 : w.heap.size ≤ v10.heap.size := Nat.le_trans hz_9 W_10.size
        have hy_10 := W_10.size
        have HW_10 := Lib.hid (wrote_trans HW_9.out W_10)
        have HL_10 := Lib.hid L_10
        have HR_10 := Lib.hid (HR_9.out.wroteA W_10 (fun a ha => by obtain rfl := Option.some.inj ha; show p ≠ w.heap.size; omega))
        have HN_10 := Lib.hid (HN_9.out.wroteA W_10 (fun a ha => by obtain rfl := Option.some.inj ha; show p ≠ v5.heap.size; omega))
        have HQ_10 := Lib.hid (HQ_9.out.wroteA W_10 (fun a ha => by obtain rfl := Option.some.inj ha; show p ≠ v8.heap.size; omega))
        clear HW_9 HL_9 L_10 W_10 HR_9 HN_9 HQ_9
        obtain ⟨ks, rfl⟩ : ∃ k : Nat, s = k := ⟨s.toNat, by omega⟩
        obtain ⟨u, hu⟩ := lit_cell [999999, 1000000, 1000001, 1001000] HQ_10.out ks (by simp; omega)
        have lt_Q := HQ_10.out.lt
        clear HQ_10
        have lt_N := HN_10.out.lt
        have r_N0 : v10.cell? ⟨v5.heap.size, 0, none⟩ = some (.int .i64 (2 + x)) := HN_10.out.cell 0
        have z_N0 := HN_10.out.frozen 0
        have r_N1 : v10.cell? ⟨v5.heap.size, 1, none⟩ = some (.int .i64 (1 + y)) := HN_10.out.cell 1
        have z_N1 := HN_10.out.frozen 1
        have r_N2 : v10.cell? ⟨v5.heap.size, 2, none⟩ = some (.int .i64 (1 + z)) := HN_10.out.cell 2
        have z_N2 := HN_10.out.frozen 2
        have lt_R := HR_10.out.lt
        have r_R0 : v10.cell? ⟨w.heap.size, 0, none⟩ = some (.int .i64 0) := HR_10.out.cell 0
        have z_R0 := HR_10.out.frozen 0
        have r_R1 : v10.cell? ⟨w.heap.size, 1, none⟩ = some (.int .i64 0) := HR_10.out.cell 1
        have z_R1 := HR_10.out.frozen 1
        have r_R2 : v10.cell? ⟨w.heap.size, 2, none⟩ = some (.int .i64 0) := HR_10.out.cell 2
        have z_R2 := HR_10.out.frozen 2
        go_wp2
        refine bodyPost_ret (v := .agg #[.int .i64 (2 + x), .int .i64 (1 + y), .int .i64 u]) (by simp [results, Try.results126, go_sem, *]) rfl ⟨_, _, _, rfl, by (repeat (first | (with_reducible exact HL_10.out) | (with_reducible refine LC.far ?_ ?_ _; rotate_left; ((try dsimp only); omega)) | (with_reducible refine LC.alloc ?_ _))), by (repeat (first | (with_reducible exact HW_10.out) | (with_reducible refine wrote_far ?_ ?_ _; rotate_left; ((try dsimp only); omega)) | (with_reducible refine wrote_alloc ?_ _)))⟩
      | false =>
        have lt_N := HN_8.out.lt
        have r_N0 : v8.cell? ⟨v5.heap.size, 0, none⟩ = some (.int .i64 (2 + x)) := HN_8.out.cell 0
        have z_N0 := HN_8.out.frozen 0
        have r_N1 : v8.cell? ⟨v5.heap.size, 1, none⟩ = some (.int .i64 (1 + y)) := HN_8.out.cell 1
        have z_N1 := HN_8.out.frozen 1
        have r_N2 : v8.cell? ⟨v5.heap.size, 2, none⟩ = some (.int .i64 (1 + z)) := HN_8.out.cell 2
        have z_N2 := HN_8.out.frozen 2
        have lt_R := HR_8.out.lt
        have r_R0 : v8.cell? ⟨w.heap.size, 0, none⟩ = some (.int .i64 0) := HR_8.out.cell 0
        have z_R0 := HR_8.out.frozen 0
        have r_R1 : v8.cell? ⟨w.heap.size, 1, none⟩ = some (.int .i64 0) := HR_8.out.cell 1
        have z_R1 := HR_8.out.frozen 1
        have r_R2 : v8.cell? ⟨w.heap.size, 2, none⟩ = some (.int .i64 0) := HR_8.out.cell 2
        have z_R2 := HR_8.out.frozen 2
        go_wp2
        refine bodyPost_ret (v := .agg #[.int .i64 (2 + x), .int .i64 (1 + y), .int .i64 (1 + z)]) (by simp [results, Try.results126, go_sem, *]) rfl ⟨_, _, _, rfl, by (repeat (first | (with_reducible exact HL_8.out) | (with_reducible refine LC.far ?_ ?_ _; rotate_left; ((try dsimp only); omega)) | (with_reducible refine LC.alloc ?_ _))), by (repeat (first | (with_reducible exact HW_8.out) | (with_reducible refine wrote_far ?_ ?_ _; rotate_left; ((try dsimp only); omega)) | (with_reducible refine wrote_alloc ?_ _)))⟩
set_option maxRecDepth 100000 in
set_option maxHeartbeats 4000000 in
theorem l16DrawAny_any (p : Nat) (w : World) (hL : LC w p 139) : Calls Try.prog 79 #[.pointer (some ⟨p, 0, none⟩)] w (fun e w' => ∃ h e' u, e = .returned (.agg #[.int .i64 h, .int .i64 e', .int .i64 u]) ∧ LC w' p 139 ∧ Wrote w w' (some ⟨p, 0, none⟩)) := by
  have HL_0 := Lib.hid hL
  have hp := hL.lt
  clear hL
  have HW_0 : Hid (Wrote w w (some ⟨p, 0, none⟩)) := Lib.hid (wrote_refl _ _)
  have hz_0 : w.heap.size ≤ w.heap.size := Nat.le_refl _
  go_enter Try.func79, Try.ntmps79
  go_wp2_with fail
  refine calls_named ?_
  rintro v1 hv1
  have hz_1 : w.heap.size ≤ v1.heap.size := by rw [hv1]; (try simp only [size_set, World.size_alloc]); omega
  have hy_1 : w.heap.size + 1 ≤ v1.heap.size := by rw [hv1]; (try simp only [size_set, World.size_alloc]); omega
  have HB_1 : Hid (Below w.heap.size w v1) := by rw [hv1]; exact (Below.refl w.heap.size w).alloc (by (try simp only [size_set, World.size_alloc]); omega) _
  have HW_1 : Hid (Wrote w v1 (some ⟨p, 0, none⟩)) := Lib.hid (wrote_grow HW_0.out HB_1.out (Nat.le_refl _))
  have HL_1 : Hid (LC v1 p 139) := Lib.hid (HL_0.out.below HB_1.out hp)
  have HR_1 : Hid (Blk v1 w.heap.size 28 #[.int .i64 0, .int .i64 0, .int .i64 0]) := by rw [hv1]; exact (Blk.new_at _ _ _ _ (by simp [size_set]))
  clear hv1 HW_0 HL_0 HB_1 
  refine (l16Draw_any p v1 HL_1.out).mono ?_
  rintro e v2 ⟨x, y, z, rfl, L_2, W_2⟩
  have hz_2 : w.heap.size ≤ v2.heap.size := Nat.le_trans hz_1 W_2.size
  have hy_2 := W_2.size
  have HW_2 := Lib.hid (wrote_trans HW_1.out W_2)
  have HL_2 := Lib.hid L_2
  have HR_2 := Lib.hid (HR_1.out.wroteA W_2 (fun a ha => by obtain rfl := Option.some.inj ha; show p ≠ w.heap.size; omega))
  clear HW_1 HL_1 L_2 W_2 HR_1
  go_wp2_with fail
  refine calls_named ?_
  rintro v3 hv3
  have hz_3 : w.heap.size ≤ v3.heap.size := by rw [hv3]; (try simp only [size_set, World.size_alloc]); omega
  have hy_3 : v2.heap.size + 1 ≤ v3.heap.size := by rw [hv3]; (try simp only [size_set, World.size_alloc]); omega
  have HB_3 : Hid (Below w.heap.size v2 v3) := by rw [hv3]; exact (Below.refl w.heap.size v2).alloc (by (try simp only [size_set, World.size_alloc]); omega) _
  have HW_3 : Hid (Wrote w v3 (some ⟨p, 0, none⟩)) := Lib.hid (wrote_grow HW_2.out HB_3.out (Nat.le_refl _))
  have HL_3 : Hid (LC v3 p 139) := Lib.hid (HL_2.out.below HB_3.out hp)
  have HR_3 : Hid (Blk v3 w.heap.size 28 #[.int .i64 0, .int .i64 0, .int .i64 0]) := by rw [hv3]; exact (HR_2.out).alloc _
  have HN_3 : Hid (Blk v3 v2.heap.size 28 #[.int .i64 x, .int .i64 y, .int .i64 z]) := by rw [hv3]; exact (Blk.new_at _ _ _ _ (by simp [size_set]))
  clear hv3 HW_2 HL_2 HB_3 HR_2
  refine (l1Once_any p 6 v3 HL_3.out (by omega) (by omega)).mono ?_
  rintro e v4 ⟨b, rfl, L_4, W_4⟩
  have hz_4 : w.heap.size ≤ v4.heap.size := Nat.le_trans hz_3 W_4.size
  have hy_4 := W_4.size
  have HW_4 := Lib.hid (wrote_trans HW_3.out W_4)
  have HL_4 := Lib.hid L_4
  have HR_4 := Lib.hid (HR_3.out.wroteA W_4 (fun a ha => by obtain rfl := Option.some.inj ha; show p ≠ w.heap.size; omega))
  have HN_4 := Lib.hid (HN_3.out.wroteA W_4 (fun a ha => by obtain rfl := Option.some.inj ha; show p ≠ v2.heap.size; omega))
  clear HW_3 HL_3 L_4 W_4 HR_3 HN_3
  cases b with
  | false =>
    have lt_N := HN_4.out.lt
    have r_N0 : v4.cell? ⟨v2.heap.size, 0, none⟩ = some (.int .i64 x) := HN_4.out.cell 0
    have z_N0 := HN_4.out.frozen 0
    have r_N1 : v4.cell? ⟨v2.heap.size, 1, none⟩ = some (.int .i64 y) := HN_4.out.cell 1
    have z_N1 := HN_4.out.frozen 1
    have r_N2 : v4.cell? ⟨v2.heap.size, 2, none⟩ = some (.int .i64 z) := HN_4.out.cell 2
    have z_N2 := HN_4.out.frozen 2
    have lt_R := HR_4.out.lt
    have r_R0 : v4.cell? ⟨w.heap.size, 0, none⟩ = some (.int .i64 0) := HR_4.out.cell 0
    have z_R0 := HR_4.out.frozen 0
    have r_R1 : v4.cell? ⟨w.heap.size, 1, none⟩ = some (.int .i64 0) := HR_4.out.cell 1
    have z_R1 := HR_4.out.frozen 1
    have r_R2 : v4.cell? ⟨w.heap.size, 2, none⟩ = some (.int .i64 0) := HR_4.out.cell 2
    have z_R2 := HR_4.out.frozen 2
    go_wp2
    refine bodyPost_ret (v := .agg #[.int .i64 x, .int .i64 y, .int .i64 z]) (by simp [results, Try.results79, go_sem, *]) rfl ⟨_, _, _, rfl, by (repeat (first | (with_reducible exact HL_4.out) | (with_reducible refine LC.far ?_ ?_ _; rotate_left; ((try dsimp only); omega)) | (with_reducible refine LC.alloc ?_ _))), by (repeat (first | (with_reducible exact HW_4.out) | (with_reducible refine wrote_far ?_ ?_ _; rotate_left; ((try dsimp only); omega)) | (with_reducible refine wrote_alloc ?_ _)))⟩
  | true =>
    go_wp2_with fail
    refine (l1Below_any p 3 v4 HL_4.out (by omega) (by omega)).mono ?_
    rintro e v5 ⟨s, rfl, ⟨s0, s1⟩, L_5, W_5⟩
    have hz_5 : w.heap.size ≤ v5.heap.size := Nat.le_trans hz_4 W_5.size
    have hy_5 := W_5.size
    have HW_5 := Lib.hid (wrote_trans HW_4.out W_5)
    have HL_5 := Lib.hid L_5
    have HR_5 := Lib.hid (HR_4.out.wroteA W_5 (fun a ha => by obtain rfl := Option.some.inj ha; show p ≠ w.heap.size; omega))
    have HN_5 := Lib.hid (HN_4.out.wroteA W_5 (fun a ha => by obtain rfl := Option.some.inj ha; show p ≠ v2.heap.size; omega))
    clear HW_4 HL_4 L_5 W_5 HR_4 HN_4
    rcases (by omega : s = 0 ∨ s = 1 ∨ s = 2) with rfl | rfl | rfl
    · skip
      go_wp2_with fail
      refine calls_named ?_
      rintro v6 hv6
      have hz_6 : w.heap.size ≤ v6.heap.size := by rw [hv6]; (try simp only [size_set, World.size_alloc]); omega
      have hy_6 : v5.heap.size + 1 ≤ v6.heap.size := by rw [hv6]; (try simp only [size_set, World.size_alloc]); omega
      have HB_6 : Hid (Below w.heap.size v5 v6) := by rw [hv6]; exact (Below.refl w.heap.size v5).alloc (by (try simp only [size_set, World.size_alloc]); omega) _
      have HW_6 : Hid (Wrote w v6 (some ⟨p, 0, none⟩)) := Lib.hid (wrote_grow HW_5.out HB_6.out (Nat.le_refl _))
      have HL_6 : Hid (LC v6 p 139) := Lib.hid (HL_5.out.below HB_6.out hp)
      have HR_6 : Hid (Blk v6 w.heap.size 28 #[.int .i64 0, .int .i64 0, .int .i64 0]) := by rw [hv6]; exact (HR_5.out).alloc _
      have HN_6 : Hid (Blk v6 v2.heap.size 28 #[.int .i64 x, .int .i64 y, .int .i64 z]) := by rw [hv6]; exact (HN_5.out).alloc _
      have HQ_6 : Hid (Blk v6 v5.heap.size 2 #[.int .i64 0, .int .i64 1, .int .i64 4, .int .i64 (-1)]) := by rw [hv6]; exact (Blk.new_at _ _ _ _ (by simp [size_set]))
      clear hv6 HW_5 HL_5 HB_6 HR_5 HN_5
      refine (l1Below_any p 4 v6 HL_6.out (by omega) (by omega)).mono ?_
      rintro e v7 ⟨t, rfl, ⟨t0, t1⟩, L_7, W_7⟩
      have hz_7 : w.heap.size ≤ v7.heap.size := Nat.le_trans hz_6 W_7.size
      have hy_7 := W_7.size
      have HW_7 := Lib.hid (wrote_trans HW_6.out W_7)
      have HL_7 := Lib.hid L_7
      have HR_7 := Lib.hid (HR_6.out.wroteA W_7 (fun a ha => by obtain rfl := Option.some.inj ha; show p ≠ w.heap.size; omega))
      have HN_7 := Lib.hid (HN_6.out.wroteA W_7 (fun a ha => by obtain rfl := Option.some.inj ha; show p ≠ v2.heap.size; omega))
      have HQ_7 := Lib.hid (HQ_6.out.wroteA W_7 (fun a ha => by obtain rfl := Option.some.inj ha; show p ≠ v5.heap.size; omega))
      clear HW_6 HL_6 L_7 W_7 HR_6 HN_6 HQ_6
      obtain ⟨kt, rfl⟩ : ∃ k : Nat, t = k := ⟨t.toNat, by omega⟩
      obtain ⟨u, hu⟩ := lit_cell [0, 1, 4, -1] HQ_7.out kt (by simp; omega)
      have lt_Q := HQ_7.out.lt
      clear HQ_7
      have lt_N := HN_7.out.lt
      have r_N0 : v7.cell? ⟨v2.heap.size, 0, none⟩ = some (.int .i64 x) := HN_7.out.cell 0
      have z_N0 := HN_7.out.frozen 0
      have r_N1 : v7.cell? ⟨v2.heap.size, 1, none⟩ = some (.int .i64 y) := HN_7.out.cell 1
      have z_N1 := HN_7.out.frozen 1
      have r_N2 : v7.cell? ⟨v2.heap.size, 2, none⟩ = some (.int .i64 z) := HN_7.out.cell 2
      have z_N2 := HN_7.out.frozen 2
      have lt_R := HR_7.out.lt
      have r_R0 : v7.cell? ⟨w.heap.size, 0, none⟩ = some (.int .i64 0) := HR_7.out.cell 0
      have z_R0 := HR_7.out.frozen 0
      have r_R1 : v7.cell? ⟨w.heap.size, 1, none⟩ = some (.int .i64 0) := HR_7.out.cell 1
      have z_R1 := HR_7.out.frozen 1
      have r_R2 : v7.cell? ⟨w.heap.size, 2, none⟩ = some (.int .i64 0) := HR_7.out.cell 2
      have z_R2 := HR_7.out.frozen 2
      go_wp2
      refine bodyPost_ret (v := .agg #[.int .i64 u, .int .i64 y, .int .i64 z]) (by simp [results, Try.results79, go_sem, *]) rfl ⟨_, _, _, rfl, by (repeat (first | (with_reducible exact HL_7.out) | (with_reducible refine LC.far ?_ ?_ _; rotate_left; ((try dsimp only); omega)) | (with_reducible refine LC.alloc ?_ _))), by (repeat (first | (with_reducible exact HW_7.out) | (with_reducible refine wrote_far ?_ ?_ _; rotate_left; ((try dsimp only); omega)) | (with_reducible refine wrote_alloc ?_ _)))⟩
    · skip
      go_wp2_with fail
      refine calls_named ?_
      rintro v6 hv6
      have hz_6 : w.heap.size ≤ v6.heap.size := by rw [hv6]; (try simp only [size_set, World.size_alloc]); omega
      have hy_6 : v5.heap.size + 1 ≤ v6.heap.size := by rw [hv6]; (try simp only [size_set, World.size_alloc]); omega
      have HB_6 : Hid (Below w.heap.size v5 v6) := by rw [hv6]; exact (Below.refl w.heap.size v5).alloc (by (try simp only [size_set, World.size_alloc]); omega) _
      have HW_6 : Hid (Wrote w v6 (some ⟨p, 0, none⟩)) := Lib.hid (wrote_grow HW_5.out HB_6.out (Nat.le_refl _))
      have HL_6 : Hid (LC v6 p 139) := Lib.hid (HL_5.out.below HB_6.out hp)
      have HR_6 : Hid (Blk v6 w.heap.size 28 #[.int .i64 0, .int .i64 0, .int .i64 0]) := by rw [hv6]; exact (HR_5.out).alloc _
      have HN_6 : Hid (Blk v6 v2.heap.size 28 #[.int .i64 x, .int .i64 y, .int .i64 z]) := by rw [hv6]; exact (HN_5.out).alloc _
      have HQ_6 : Hid (Blk v6 v5.heap.size 2 #[.int .i64 0, .int .i64 (-1), .int .i64 1001]) := by rw [hv6]; exact (Blk.new_at _ _ _ _ (by simp [size_set]))
      clear hv6 HW_5 HL_5 HB_6 HR_5 HN_5
      refine (l1Below_any p 3 v6 HL_6.out (by omega) (by omega)).mono ?_
      rintro e v7 ⟨t, rfl, ⟨t0, t1⟩, L_7, W_7⟩
      have hz_7 : w.heap.size ≤ v7.heap.size := Nat.le_trans hz_6 W_7.size
      have hy_7 := W_7.size
      have HW_7 := Lib.hid (wrote_trans HW_6.out W_7)
      have HL_7 := Lib.hid L_7
      have HR_7 := Lib.hid (HR_6.out.wroteA W_7 (fun a ha => by obtain rfl := Option.some.inj ha; show p ≠ w.heap.size; omega))
      have HN_7 := Lib.hid (HN_6.out.wroteA W_7 (fun a ha => by obtain rfl := Option.some.inj ha; show p ≠ v2.heap.size; omega))
      have HQ_7 := Lib.hid (HQ_6.out.wroteA W_7 (fun a ha => by obtain rfl := Option.some.inj ha; show p ≠ v5.heap.size; omega))
      clear HW_6 HL_6 L_7 W_7 HR_6 HN_6 HQ_6
      obtain ⟨kt, rfl⟩ : ∃ k : Nat, t = k := ⟨t.toNat, by omega⟩
      obtain ⟨u, hu⟩ := lit_cell [0, -1, 1001] HQ_7.out kt (by simp; omega)
      have lt_Q := HQ_7.out.lt
      clear HQ_7
      have lt_N := HN_7.out.lt
      have r_N0 : v7.cell? ⟨v2.heap.size, 0, none⟩ = some (.int .i64 x) := HN_7.out.cell 0
      have z_N0 := HN_7.out.frozen 0
      have r_N1 : v7.cell? ⟨v2.heap.size, 1, none⟩ = some (.int .i64 y) := HN_7.out.cell 1
      have z_N1 := HN_7.out.frozen 1
      have r_N2 : v7.cell? ⟨v2.heap.size, 2, none⟩ = some (.int .i64 z) := HN_7.out.cell 2
      have z_N2 := HN_7.out.frozen 2
      have lt_R := HR_7.out.lt
      have r_R0 : v7.cell? ⟨w.heap.size, 0, none⟩ = some (.int .i64 0) := HR_7.out.cell 0
      have z_R0 := HR_7.out.frozen 0
      have r_R1 : v7.cell? ⟨w.heap.size, 1, none⟩ = some (.int .i64 0) := HR_7.out.cell 1
      have z_R1 := HR_7.out.frozen 1
      have r_R2 : v7.cell? ⟨w.heap.size, 2, none⟩ = some (.int .i64 0) := HR_7.out.cell 2
      have z_R2 := HR_7.out.frozen 2
      go_wp2
      refine bodyPost_ret (v := .agg #[.int .i64 x, .int .i64 u, .int .i64 z]) (by simp [results, Try.results79, go_sem, *]) rfl ⟨_, _, _, rfl, by (repeat (first | (with_reducible exact HL_7.out) | (with_reducible refine LC.far ?_ ?_ _; rotate_left; ((try dsimp only); omega)) | (with_reducible refine LC.alloc ?_ _))), by (repeat (first | (with_reducible exact HW_7.out) | (with_reducible refine wrote_far ?_ ?_ _; rotate_left; ((try dsimp only); omega)) | (with_reducible refine wrote_alloc ?_ _)))⟩
    · skip
      go_wp2_with fail
      refine calls_named ?_
      rintro v6 hv6
      have hz_6 : w.heap.size ≤ v6.heap.size := by rw [hv6]; (try simp only [size_set, World.size_alloc]); omega
      have hy_6 : v5.heap.size + 1 ≤ v6.heap.size := by rw [hv6]; (try simp only [size_set, World.size_alloc]); omega
      have HB_6 : Hid (Below w.heap.size v5 v6) := by rw [hv6]; exact (Below.refl w.heap.size v5).alloc (by (try simp only [size_set, World.size_alloc]); omega) _
      have HW_6 : Hid (Wrote w v6 (some ⟨p, 0, none⟩)) := Lib.hid (wrote_grow HW_5.out HB_6.out (Nat.le_refl _))
      have HL_6 : Hid (LC v6 p 139) := Lib.hid (HL_5.out.below HB_6.out hp)
      have HR_6 : Hid (Blk v6 w.heap.size 28 #[.int .i64 0, .int .i64 0, .int .i64 0]) := by rw [hv6]; exact (HR_5.out).alloc _
      have HN_6 : Hid (Blk v6 v2.heap.size 28 #[.int .i64 x, .int .i64 y, .int .i64 z]) := by rw [hv6]; exact (HN_5.out).alloc _
      have HQ_6 : Hid (Blk v6 v5.heap.size 2 #[.int .i64 0, .int .i64 (-1), .int .i64 1001001]) := by rw [hv6]; exact (Blk.new_at _ _ _ _ (by simp [size_set]))
      clear hv6 HW_5 HL_5 HB_6 HR_5 HN_5
      refine (l1Below_any p 3 v6 HL_6.out (by omega) (by omega)).mono ?_
      rintro e v7 ⟨t, rfl, ⟨t0, t1⟩, L_7, W_7⟩
      have hz_7 : w.heap.size ≤ v7.heap.size := Nat.le_trans hz_6 W_7.size
      have hy_7 := W_7.size
      have HW_7 := Lib.hid (wrote_trans HW_6.out W_7)
      have HL_7 := Lib.hid L_7
      have HR_7 := Lib.hid (HR_6.out.wroteA W_7 (fun a ha => by obtain rfl := Option.some.inj ha; show p ≠ w.heap.size; omega))
      have HN_7 := Lib.hid (HN_6.out.wroteA W_7 (fun a ha => by obtain rfl := Option.some.inj ha; show p ≠ v2.heap.size; omega))
      have HQ_7 := Lib.hid (HQ_6.out.wroteA W_7 (fun a ha => by obtain rfl := Option.some.inj ha; show p ≠ v5.heap.size; omega))
      clear HW_6 HL_6 L_7 W_7 HR_6 HN_6 HQ_6
      obtain ⟨kt, rfl⟩ : ∃ k : Nat, t = k := ⟨t.toNat, by omega⟩
      obtain ⟨u, hu⟩ := lit_cell [0, -1, 1001001] HQ_7.out kt (by simp; omega)
      have lt_Q := HQ_7.out.lt
      clear HQ_7
      have lt_N := HN_7.out.lt
      have r_N0 : v7.cell? ⟨v2.heap.size, 0, none⟩ = some (.int .i64 x) := HN_7.out.cell 0
      have z_N0 := HN_7.out.frozen 0
      have r_N1 : v7.cell? ⟨v2.heap.size, 1, none⟩ = some (.int .i64 y) := HN_7.out.cell 1
      have z_N1 := HN_7.out.frozen 1
      have r_N2 : v7.cell? ⟨v2.heap.size, 2, none⟩ = some (.int .i64 z) := HN_7.out.cell 2
      have z_N2 := HN_7.out.frozen 2
      have lt_R := HR_7.out.lt
      have r_R0 : v7.cell? ⟨w.heap.size, 0, none⟩ = some (.int .i64 0) := HR_7.out.cell 0
      have z_R0 := HR_7.out.frozen 0
      have r_R1 : v7.cell? ⟨w.heap.size, 1, none⟩ = some (.int .i64 0) := HR_7.out.cell 1
      have z_R1 := HR_7.out.frozen 1
      have r_R2 : v7.cell? ⟨w.heap.size, 2, none⟩ = some (.int .i64 0) := HR_7.out.cell 2
      have z_R2 := HR_7.out.frozen 2
      go_wp2
      refine bodyPost_ret (v := .agg #[.int .i64 x, .int .i64 y, .int .i64 u]) (by simp [results, Try.results79, go_sem, *]) rfl ⟨_, _, _, rfl, by (repeat (first | (with_reducible exact HL_7.out) | (with_reducible refine LC.far ?_ ?_ _; rotate_left; ((try dsimp only); omega)) | (with_reducible refine LC.alloc ?_ _))), by (repeat (first | (with_reducible exact HW_7.out) | (with_reducible refine wrote_far ?_ ?_ _; rotate_left; ((try dsimp only); omega)) | (with_reducible refine wrote_alloc ?_ _)))⟩
set_option maxRecDepth 100000 in
set_option maxHeartbeats 4000000 in
theorem l16DrawTime_any (p : Nat) (a b c : Int) (w : World) (hL : LC w p 139) : Calls Try.prog 80 #[.pointer (some ⟨p, 0, none⟩), .agg #[.int .i64 a, .int .i64 b, .int .i64 c]] w (RetI w p 139 (fun _ => True)) := by
  have HL_0 := Lib.hid hL
  have hp := hL.lt
  clear hL
  have HW_0 : Hid (Wrote w w (some ⟨p, 0, none⟩)) := Lib.hid (wrote_refl _ _)
  have hz_0 : w.heap.size ≤ w.heap.size := Nat.le_refl _
  go_enter Try.func80, Try.ntmps80
  go_wp2_with fail
  refine calls_named ?_
  rintro v1 hv1
  have hz_1 : w.heap.size ≤ v1.heap.size := by rw [hv1]; (try simp only [size_set, World.size_alloc]); omega
  have hy_1 : w.heap.size + 1 ≤ v1.heap.size := by rw [hv1]; (try simp only [size_set, World.size_alloc]); omega
  have HB_1 : Hid (Below w.heap.size w v1) := by rw [hv1]; exact (Below.refl w.heap.size w).alloc (by (try simp only [size_set, World.size_alloc]); omega) _
  have HW_1 : Hid (Wrote w v1 (some ⟨p, 0, none⟩)) := Lib.hid (wrote_grow HW_0.out HB_1.out (Nat.le_refl _))
  have HL_1 : Hid (LC v1 p 139) := Lib.hid (HL_0.out.below HB_1.out hp)
  have HN_1 : Hid (Blk v1 w.heap.size 28 #[.int .i64 a, .int .i64 b, .int .i64 c]) := by rw [hv1]; exact (Blk.new_at _ _ _ _ (by simp [size_set]))
  clear hv1 HW_0 HL_0 HB_1 
  refine (l1Below_any p 5 v1 HL_1.out (by omega) (by omega)).mono ?_
  rintro e v2 ⟨x, rfl, ⟨x0, x1⟩, L_2, W_2⟩
  have hz_2 : w.heap.size ≤ v2.heap.size := Nat.le_trans hz_1 W_2.size
  have hy_2 := W_2.size
  have HW_2 := Lib.hid (wrote_trans HW_1.out W_2)
  have HL_2 := Lib.hid L_2
  have HN_2 := Lib.hid (HN_1.out.wroteA W_2 (fun a ha => by obtain rfl := Option.some.inj ha; show p ≠ w.heap.size; omega))
  clear HW_1 HL_1 L_2 W_2 HN_1
  rcases (by omega : x = 0 ∨ x = 1 ∨ x = 2 ∨ (3 ≤ x ∧ x < 5)) with rfl | rfl | rfl | ⟨hx3, hx5⟩
  · skip
    have hg := HN_2.out.lt
    have hS0 : v2.cell? ⟨w.heap.size, 2, none⟩ = some (.int .i64 c) := HN_2.out.cell 2
    go_wp2_with fail
    go_region_held_law (fun w' => w'.cell? ⟨w.heap.size, 2, none⟩ = some (.int .i64 c)) (first | assumption | exact hS0) ((go_at_call 127; refine (l1From_any p (-1) 1 _ (by exact HL_2.out) (by omega) (by omega) (by omega)).mono ?_; rintro e v9 ⟨y, rfl, _, L9, W9⟩; replace W9 : Wrote v2 v9 (some ⟨p, 0, none⟩) := ⟨W9.os, W9.tape, W9.output, W9.size, W9.block⟩; have hS1 : v9.cell? ⟨w.heap.size, 2, none⟩ = some (.int .i64 c) := (HN_2.out.wroteA W9 (fun a ha => by obtain rfl := Option.some.inj ha; show p ≠ w.heap.size; omega)).cell 2))
    go_wp2
    go_ret
    exact ⟨_, rfl, trivial, L9, wrote_trans HW_2.out W9⟩
  · skip
    go_wp2_with fail
    refine (l1Num_any p 1000000 v2 HL_2.out (by omega) (by omega)).mono ?_
    rintro e v3 ⟨y, rfl, _, L_3, W_3⟩
    have hz_3 : w.heap.size ≤ v3.heap.size := Nat.le_trans hz_2 W_3.size
    have hy_3 := W_3.size
    have HW_3 := Lib.hid (wrote_trans HW_2.out W_3)
    have HL_3 := Lib.hid L_3
    have HN_3 := Lib.hid (HN_2.out.wroteA W_3 (fun a ha => by obtain rfl := Option.some.inj ha; show p ≠ w.heap.size; omega))
    clear HW_2 HL_2 L_3 W_3 HN_2
    go_wp2
    go_ret
    exact ⟨_, rfl, trivial, by (repeat (first | (with_reducible exact HL_3.out) | (with_reducible refine LC.far ?_ ?_ _; rotate_left; ((try dsimp only); omega)) | (with_reducible refine LC.alloc ?_ _))), by (repeat (first | (with_reducible exact HW_3.out) | (with_reducible refine wrote_far ?_ ?_ _; rotate_left; ((try dsimp only); omega)) | (with_reducible refine wrote_alloc ?_ _)))⟩
  · skip
    go_wp2_with fail
    refine (l1Below_any p 3 v2 HL_2.out (by omega) (by omega)).mono ?_
    rintro e v3 ⟨y, rfl, ⟨y0, y1⟩, L_3, W_3⟩
    have hz_3 : w.heap.size ≤ v3.heap.size := Nat.le_trans hz_2 W_3.size
    have hy_3 := W_3.size
    have HW_3 := Lib.hid (wrote_trans HW_2.out W_3)
    have HL_3 := Lib.hid L_3
    have HN_3 := Lib.hid (HN_2.out.wroteA W_3 (fun a ha => by obtain rfl := Option.some.inj ha; show p ≠ w.heap.size; omega))
    clear HW_2 HL_2 L_3 W_3 HN_2
    go_wp2
    go_ret
    exact ⟨_, rfl, trivial, by (repeat (first | (with_reducible exact HL_3.out) | (with_reducible refine LC.far ?_ ?_ _; rotate_left; ((try dsimp only); omega)) | (with_reducible refine LC.alloc ?_ _))), by (repeat (first | (with_reducible exact HW_3.out) | (with_reducible refine wrote_far ?_ ?_ _; rotate_left; ((try dsimp only); omega)) | (with_reducible refine wrote_alloc ?_ _)))⟩
  · have n0 : ¬ x = 0 := by omega
    have n1 : ¬ x = 1 := by omega
    have n2 : ¬ x = 2 := by omega
    have e0 : (x == 0) = false := by simpa using n0
    have e1 : (x == 1) = false := by simpa using n1
    have e2 : (x == 2) = false := by simpa using n2
    clear n0 n1 n2
    go_wp2_with fail
    refine (l1Below_any p 70 v2 HL_2.out (by omega) (by omega)).mono ?_
    rintro e v3 ⟨y, rfl, ⟨y0, y1⟩, L_3, W_3⟩
    have hz_3 : w.heap.size ≤ v3.heap.size := Nat.le_trans hz_2 W_3.size
    have hy_3 := W_3.size
    have HW_3 := Lib.hid (wrote_trans HW_2.out W_3)
    have HL_3 := Lib.hid L_3
    have HN_3 := Lib.hid (HN_2.out.wroteA W_3 (fun a ha => by obtain rfl := Option.some.inj ha; show p ≠ w.heap.size; omega))
    clear HW_2 HL_2 L_3 W_3 HN_2
    go_wp2
    go_ret
    exact ⟨_, rfl, trivial, by (repeat (first | (with_reducible exact HL_3.out) | (with_reducible refine LC.far ?_ ?_ _; rotate_left; ((try dsimp only); omega)) | (with_reducible refine LC.alloc ?_ _))), by (repeat (first | (with_reducible exact HW_3.out) | (with_reducible refine wrote_far ?_ ?_ _; rotate_left; ((try dsimp only); omega)) | (with_reducible refine wrote_alloc ?_ _)))⟩
set_option maxRecDepth 100000 in
set_option maxHeartbeats 4000000 in
theorem DrawFreeAt_any (A : Option Addr) (n cap : Nat) (bs : List Int) (w : World) (hS : SlB w A n bs) (hn : n ≤ 4096) :
    Calls Try.prog 22 #[.slice A n cap] w fun e w' => ∃ h e' u t, e = .returned (.tuple #[.agg #[.int .i64 h, .int .i64 e', .int .i64 u], .int .i64 t]) ∧ Below w.heap.size w w' := by
  have HS := Lib.hid hS
  clear hS
  go_enter Try.func22, Try.ntmps22
  go_wp2_with fail
  refine calls_named ?_
  rintro v0 hv0
  have f0 : Below w.heap.size w v0 := by rw [hv0]; (repeat' (first | (with_reducible exact Below.refl _ _) | (with_reducible assumption) | (with_reducible refine Below.alloc ?_ ?_ _) | (with_reducible refine Below.drew ?_) | (with_reducible refine Below.setCell ?_ ?_ _) | (with_reducible refine bstep (by assumption) ?_ ?_) | (with_reducible exact Nat.le_refl _) | omega | (simp [*]; done) | (simp [*]; omega)))
  have KR_0 := Lib.hid (show Blk v0 w.heap.size 28 #[.int .i64 0, .int .i64 0, .int .i64 0] by rw [hv0]; exact Blk.new _ _ _)
  clear hv0
  refine (l1New_any A n cap bs v0 (HS.out.below f0) hn).mono ?_
  rintro e v1 ⟨rfl, L1, b1⟩
  have KR_1 := Lib.hid (KR_0.out.below b1)
  have f1 := bthen f0 b1
  have hp0 : w.heap.size < v0.heap.size := KR_0.out.lt
  have hp1 := L1.lt
  generalize hpp : v0.heap.size = p at *
  go_wp2_with fail
  refine (l16DrawAny_any p v1 L1).mono ?_
  rintro e v2 ⟨h, e', u, rfl, L2, W2⟩
  have KR_2 := Lib.hid (KR_1.out.wroteA W2 (fun a ha => by obtain rfl := Option.some.inj ha; show p ≠ w.heap.size; omega))
  have f2 := W2.below f1 f1.size (fun x hx => by obtain rfl := Option.some.inj hx; show w.heap.size ≤ p; omega)
  have hz2 := W2.size
  go_wp2_with fail
  obtain ⟨v3, hv3⟩ : ∃ v3 : World, v3 = v2.alloc (.cells #[.int .i64 h, .int .i64 e', .int .i64 u] 28) := ⟨_, rfl⟩
  rw [← hv3]
  have b3 : Below v2.heap.size v2 v3 := by rw [hv3]; (repeat' (first | (with_reducible exact Below.refl _ _) | (with_reducible assumption) | (with_reducible refine Below.alloc ?_ ?_ _) | (with_reducible refine Below.drew ?_) | (with_reducible refine Below.setCell ?_ ?_ _) | (with_reducible refine bstep (by assumption) ?_ ?_) | (with_reducible exact Nat.le_refl _) | omega | (simp [*]; done) | (simp [*]; omega)))
  have KN_3 := Lib.hid (show Blk v3 v2.heap.size 28 #[.int .i64 h, .int .i64 e', .int .i64 u] by rw [hv3]; exact Blk.new _ _ _)
  clear hv3
  have KR_3 := Lib.hid (KR_2.out.below b3)
  have L3 := Lib.hid (L2.new b3)
  have f3 := bthen f2 b3
  clear KR_0 KR_1 KR_2 L2 W2 L1
  have hg := KN_3.out.lt
  have hgz : ∀ i v, (#[Value.int .i64 h, .int .i64 e', .int .i64 u] : Array Value)[i]? = v → v3.cell? ⟨v2.heap.size, i, none⟩ = v := fun i v hv => (KN_3.out.cell i).trans hv
  have q0 := hgz 0 _ rfl
  have q1 := hgz 1 _ rfl
  have q2 := hgz 2 _ rfl
  simp only [List.getElem?_toArray, List.getElem?_cons_zero, List.getElem?_cons_succ] at q0 q1 q2
  clear hgz
  generalize hgg : v2.heap.size = g at *
  have hgp : p < g := by omega
  have hgw : g ≠ w.heap.size := by omega
  have hS0 : v3.cell? ⟨g, 0, none⟩ = some (.int .i64 h) ∧ v3.cell? ⟨g, 1, none⟩ = some (.int .i64 e') ∧ v3.cell? ⟨g, 2, none⟩ = some (.int .i64 u) := ⟨q0, q1, q2⟩
  clear q0 q1 q2
  go_region_held_law (fun w' => w'.cell? ⟨g, 0, none⟩ = some (.int .i64 h) ∧ w'.cell? ⟨g, 1, none⟩ = some (.int .i64 e') ∧ w'.cell? ⟨g, 2, none⟩ = some (.int .i64 u)) (first | assumption | exact hS0 | exact ⟨(((K9.far (p := ⟨w.heap.size, 0, none⟩) hgw _).far (p := ⟨w.heap.size, 1, none⟩) hgw _).far (p := ⟨w.heap.size, 2, none⟩) hgw _).cell 0, (((K9.far (p := ⟨w.heap.size, 0, none⟩) hgw _).far (p := ⟨w.heap.size, 1, none⟩) hgw _).far (p := ⟨w.heap.size, 2, none⟩) hgw _).cell 1, (((K9.far (p := ⟨w.heap.size, 0, none⟩) hgw _).far (p := ⟨w.heap.size, 1, none⟩) hgw _).far (p := ⟨w.heap.size, 2, none⟩) hgw _).cell 2⟩) ((go_at_call 80; refine (l16DrawTime_any p h e' u _ (by exact L3.out)).mono ?_; rintro e v9 ⟨t, rfl, _, L9, W9⟩; replace W9 : Wrote v3 v9 (some ⟨p, 0, none⟩) := ⟨W9.os, W9.tape, W9.output, W9.size, W9.block⟩; have K9 := KN_3.out.wroteA W9 (fun a ha => by obtain rfl := Option.some.inj ha; show p ≠ g; omega); have hS1 : v9.cell? ⟨g, 0, none⟩ = some (.int .i64 h) ∧ v9.cell? ⟨g, 1, none⟩ = some (.int .i64 e') ∧ v9.cell? ⟨g, 2, none⟩ = some (.int .i64 u) := ⟨K9.cell 0, K9.cell 1, K9.cell 2⟩; have R9 := KR_3.out.wroteA W9 (fun a ha => by obtain rfl := Option.some.inj ha; show p ≠ w.heap.size; omega); have lr := R9.lt; have r0 := R9.cell 0; have r1 := R9.cell 1; have r2 := R9.cell 2; have z0 := R9.frozen 0; have z1 := R9.frozen 1; have z2 := R9.frozen 2; have f9 := Lib.hid (W9.below f3 f3.size (fun x hx => by obtain rfl := Option.some.inj hx; show w.heap.size ≤ p; omega)); simp only [List.getElem?_toArray, List.getElem?_cons_zero, List.getElem?_cons_succ] at r0 r1 r2))
  go_wp2
  refine bodyPost_ret (v := .tuple #[.agg #[.int .i64 h, .int .i64 e', .int .i64 u], .int .i64 t]) (by simp [results, Try.results22, go_sem, *]) rfl ⟨h, e', u, t, rfl, ?_⟩
  have f9' := f9.out
  (repeat' (first | (with_reducible exact Below.refl _ _) | (with_reducible assumption) | (with_reducible refine Below.alloc ?_ ?_ _) | (with_reducible refine Below.drew ?_) | (with_reducible refine Below.setCell ?_ ?_ _) | (with_reducible refine bstep (by assumption) ?_ ?_) | (with_reducible exact Nat.le_refl _) | omega | (simp [*]; done) | (simp [*]; omega)))
end Go.Proofs.Ytgpllffiahccjaa

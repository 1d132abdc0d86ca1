/- Part 2 of what the claim rests on: D3, Job1, J1, M1, J2, J4, J6, SJob, RJS, AddL, OpenL, Cp, O8, Lease, Lease2, St1. No condition of its own. -/
import Derived.Test.YtokklkmibjpjnaaBd1
import Derived.Deep.RegionHeldLaw
import Derived.Maps.OwnSet
import Derived.Maps.Views
import Derived.OwnWalk
import Derived.Maps.OwnOps
import Derived.Deep.AppendLies
import Derived.Deep.RegionLawGrows
namespace Go.Proofs.Ytokklkmibjpjnaa
set_option linter.unusedSimpArgs false
set_option linter.unusedVariables false
attribute [local go_sem] n_lt2 n_lt3 n_lt4 n_le2 n_le3
open Go.RowKit
attribute [local go_sem] Ext.cell Ext.frozen
theorem LC.far {w : World} {p C : Nat} (h : LC w p C) {q : Addr} (hq : p < q.block) (u : Value) : LC (w.setCell q u) p C :=
  h.keep (Nat.le_of_eq (size_set w q u).symm) (fun i hi => Below.heap_setCell w q u i (by omega))
theorem LC.alloc {w : World} {p C : Nat} (h : LC w p C) (o : Obj) : LC (w.alloc o) p C := h.new ((Below.refl _ _).alloc (Nat.le_refl _) o)
theorem wrote_far {w v : World} {p : Nat} (h : Wrote w v (some ⟨p, 0, none⟩)) {q : Addr} (hq : w.heap.size ≤ q.block) (u : Value) : Wrote w (v.setCell q u) (some ⟨p, 0, none⟩) :=
  wrote_grow h ((Below.refl w.heap.size v).setCell hq u) (Nat.le_refl _)
theorem wrote_alloc {w v : World} {p : Nat} (h : Wrote w v (some ⟨p, 0, none⟩)) (o : Obj) : Wrote w (v.alloc o) (some ⟨p, 0, none⟩) :=
  wrote_grow h ((Below.refl v.heap.size v).alloc (Nat.le_refl _) o) h.size
set_option maxRecDepth 100000 in
set_option maxHeartbeats 4000000 in
theorem l16Draw_any (p : Nat) (w : World) (hL : LC w p 74) : Calls Try.prog 72 #[.pointer (some ⟨p, 0, none⟩)] w (fun e w' => ∃ h e' u, e = .returned (.agg #[.int .i64 h, .int .i64 e', .int .i64 u]) ∧ LC w' p 74 ∧ Wrote w w' (some ⟨p, 0, none⟩)) := by
  have HL_0 := Lib.hid hL
  have hp := hL.lt
  clear hL
  have HW_0 : Hid (Wrote w w (some ⟨p, 0, none⟩)) := Lib.hid (wrote_refl _ _)
  have hz_0 : w.heap.size ≤ w.heap.size := Nat.le_refl _
  go_enter Try.func72, Try.ntmps72
  go_wp2_with fail
  refine calls_named ?_
  rintro v1 hv1
  have hz_1 : w.heap.size ≤ v1.heap.size := by rw [hv1]; (try simp only [size_set, World.size_alloc]); omega
  have hy_1 : w.heap.size + 1 ≤ v1.heap.size := by rw [hv1]; (try simp only [size_set, World.size_alloc]); omega
  have HB_1 : Hid (Below w.heap.size w v1) := by rw [hv1]; exact (Below.refl w.heap.size w).alloc (by (try simp only [size_set, World.size_alloc]); omega) _
  have HW_1 : Hid (Wrote w v1 (some ⟨p, 0, none⟩)) := Lib.hid (wrote_grow HW_0.out HB_1.out (Nat.le_refl _))
  have HL_1 : Hid (LC v1 p 74) := Lib.hid (HL_0.out.below HB_1.out hp)
  have HR_1 : Hid (Blk v1 w.heap.size 27 #[.int .i64 0, .int .i64 0, .int .i64 0]) := by rw [hv1]; exact (Blk.new_at _ _ _ _ (by simp [size_set]))
  clear hv1 HW_0 HL_0 HB_1 
  refine (l1Once_any p 8 v1 HL_1.out (by omega) (by omega)).mono ?_
  rintro e v2 ⟨b, rfl, L_2, W_2⟩
  have hz_2 : w.heap.size ≤ v2.heap.size := Nat.le_trans hz_1 W_2.size
  have hy_2 := W_2.size
  have HW_2 := Lib.hid (wrote_trans HW_1.out W_2)
  have HL_2 := Lib.hid L_2
  have HR_2 := Lib.hid (HR_1.out.wroteA W_2 (fun a ha => by obtain rfl := Option.some.inj ha; show p ≠ w.heap.size; omega))
  clear HW_1 HL_1 L_2 W_2 HR_1
  cases b with
  | true =>
    have lt_R := HR_2.out.lt
    have r_R0 : v2.cell? ⟨w.heap.size, 0, none⟩ = some (.int .i64 0) := HR_2.out.cell 0
    have z_R0 := HR_2.out.frozen 0
    have r_R1 : v2.cell? ⟨w.heap.size, 1, none⟩ = some (.int .i64 0) := HR_2.out.cell 1
    have z_R1 := HR_2.out.frozen 1
    have r_R2 : v2.cell? ⟨w.heap.size, 2, none⟩ = some (.int .i64 0) := HR_2.out.cell 2
    have z_R2 := HR_2.out.frozen 2
    go_wp2
    refine bodyPost_ret (v := .agg #[.int .i64 0, .int .i64 0, .int .i64 0]) (by simp [results, Try.results72, go_sem, *]) rfl ⟨_, _, _, rfl, by (repeat (first | (with_reducible exact HL_2.out) | (with_reducible refine LC.far ?_ ?_ _; rotate_left; ((try dsimp only); omega)) | (with_reducible refine LC.alloc ?_ _))), by (repeat (first | (with_reducible exact HW_2.out) | (with_reducible refine wrote_far ?_ ?_ _; rotate_left; ((try dsimp only); omega)) | (with_reducible refine wrote_alloc ?_ _)))⟩
  | false =>
    go_wp2_with fail
    refine (l1Below_any p 2 v2 HL_2.out (by omega) (by omega)).mono ?_
    rintro e v3 ⟨x, rfl, ⟨x0, x1⟩, L_3, W_3⟩
    have hz_3 : w.heap.size ≤ v3.heap.size := Nat.le_trans hz_2 W_3.size
    have hy_3 := W_3.size
    have HW_3 := Lib.hid (wrote_trans HW_2.out W_3)
    have HL_3 := Lib.hid L_3
    have HR_3 := Lib.hid (HR_2.out.wroteA W_3 (fun a ha => by obtain rfl := Option.some.inj ha; show p ≠ w.heap.size; omega))
    clear HW_2 HL_2 L_3 W_3 HR_2
    go_wp2_with fail
    refine (l1Below_any p 5 v3 HL_3.out (by omega) (by omega)).mono ?_
    rintro e v4 ⟨y, rfl, ⟨y0, y1⟩, L_4, W_4⟩
    have hz_4 : w.heap.size ≤ v4.heap.size := Nat.le_trans hz_3 W_4.size
    have hy_4 := W_4.size
    have HW_4 := Lib.hid (wrote_trans HW_3.out W_4)
    have HL_4 := Lib.hid L_4
    have HR_4 := Lib.hid (HR_3.out.wroteA W_4 (fun a ha => by obtain rfl := Option.some.inj ha; show p ≠ w.heap.size; omega))
    clear HW_3 HL_3 L_4 W_4 HR_3
    go_wp2_with fail
    refine (l1Below_any p 60 v4 HL_4.out (by omega) (by omega)).mono ?_
    rintro e v5 ⟨z, rfl, ⟨z0, z1⟩, L_5, W_5⟩
    have hz_5 : w.heap.size ≤ v5.heap.size := Nat.le_trans hz_4 W_5.size
    have hy_5 := W_5.size
    have HW_5 := Lib.hid (wrote_trans HW_4.out W_5)
    have HL_5 := Lib.hid L_5
    have HR_5 := Lib.hid (HR_4.out.wroteA W_5 (fun a ha => by obtain rfl := Option.some.inj ha; show p ≠ w.heap.size; omega))
    clear HW_4 HL_4 L_5 W_5 HR_4
    go_wp2_with fail
    refine calls_named ?_
    rintro v6 hv6
    have hz_6 : w.heap.size ≤ v6.heap.size := by rw [hv6]; (try simp only [size_set, World.size_alloc]); omega
    have hy_6 : v5.heap.size + 1 ≤ v6.heap.size := by rw [hv6]; (try simp only [size_set, World.size_alloc]); omega
    have HB_6 : Hid (Below w.heap.size v5 v6) := by rw [hv6]; exact (Below.refl w.heap.size v5).alloc (by (try simp only [size_set, World.size_alloc]); omega) _
    have HW_6 : Hid (Wrote w v6 (some ⟨p, 0, none⟩)) := Lib.hid (wrote_grow HW_5.out HB_6.out (Nat.le_refl _))
    have HL_6 : Hid (LC v6 p 74) := Lib.hid (HL_5.out.below HB_6.out hp)
    have HR_6 : Hid (Blk v6 w.heap.size 27 #[.int .i64 0, .int .i64 0, .int .i64 0]) := by rw [hv6]; exact (HR_5.out).alloc _
    have HN_6 : Hid (Blk v6 v5.heap.size 27 #[.int .i64 (2 + x), .int .i64 (1 + y), .int .i64 (1 + z)]) := by rw [hv6]; exact (Blk.new_at _ _ _ _ (by simp [size_set]))
    clear hv6 HW_5 HL_5 HB_6 HR_5
    refine (l1Once_any p 8 v6 HL_6.out (by omega) (by omega)).mono ?_
    rintro e v7 ⟨b1, rfl, L_7, W_7⟩
    have hz_7 : w.heap.size ≤ v7.heap.size := Nat.le_trans hz_6 W_7.size
    have hy_7 := W_7.size
    have HW_7 := Lib.hid (wrote_trans HW_6.out W_7)
    have HL_7 := Lib.hid L_7
    have HR_7 := Lib.hid (HR_6.out.wroteA W_7 (fun a ha => by obtain rfl := Option.some.inj ha; show p ≠ w.heap.size; omega))
    have HN_7 := Lib.hid (HN_6.out.wroteA W_7 (fun a ha => by obtain rfl := Option.some.inj ha; show p ≠ v5.heap.size; omega))
    clear HW_6 HL_6 L_7 W_7 HR_6 HN_6
    cases b1 with
    | true =>
      go_wp2_with fail
      refine (l1Below_any p 2 v7 HL_7.out (by omega) (by omega)).mono ?_
      rintro e v8 ⟨q, rfl, ⟨q0, q1⟩, L_8, W_8⟩
      have hz_8 : w.heap.size ≤ v8.heap.size := Nat.le_trans hz_7 W_8.size
      have hy_8 := W_8.size
      have HW_8 := Lib.hid (wrote_trans HW_7.out W_8)
      have HL_8 := Lib.hid L_8
      have HR_8 := Lib.hid (HR_7.out.wroteA W_8 (fun a ha => by obtain rfl := Option.some.inj ha; show p ≠ w.heap.size; omega))
      have HN_8 := Lib.hid (HN_7.out.wroteA W_8 (fun a ha => by obtain rfl := Option.some.inj ha; show p ≠ v5.heap.size; omega))
      clear HW_7 HL_7 L_8 W_8 HR_7 HN_7
      have lt_N := HN_8.out.lt
      have r_N0 : v8.cell? ⟨v5.heap.size, 0, none⟩ = some (.int .i64 (2 + x)) := HN_8.out.cell 0
      have z_N0 := HN_8.out.frozen 0
      have r_N1 : v8.cell? ⟨v5.heap.size, 1, none⟩ = some (.int .i64 (1 + y)) := HN_8.out.cell 1
      have z_N1 := HN_8.out.frozen 1
      have r_N2 : v8.cell? ⟨v5.heap.size, 2, none⟩ = some (.int .i64 (1 + z)) := HN_8.out.cell 2
      have z_N2 := HN_8.out.frozen 2
      go_wp2_with fail
      refine calls_named ?_
      rintro v9 hv9
      have hz_9 : w.heap.size ≤ v9.heap.size := by rw [hv9]; (try simp only [size_set, World.size_alloc]); omega
      have hy_9 : v8.heap.size + 0 ≤ v9.heap.size := by rw [hv9]; (try simp only [size_set, World.size_alloc]); omega
      have HB_9 : Hid (Below w.heap.size v8 v9) := by rw [hv9]; exact (Below.refl w.heap.size v8).setCell (p := ⟨v5.heap.size, 1, none⟩) (show w.heap.size ≤ v5.heap.size by omega) _
      have HW_9 : Hid (Wrote w v9 (some ⟨p, 0, none⟩)) := Lib.hid (wrote_grow HW_8.out HB_9.out (Nat.le_refl _))
      have HL_9 : Hid (LC v9 p 74) := Lib.hid (HL_8.out.below HB_9.out hp)
      have HR_9 : Hid (Blk v9 w.heap.size 27 #[.int .i64 0, .int .i64 0, .int .i64 0]) := by rw [hv9]; exact (HR_8.out).far (p := ⟨v5.heap.size, 1, none⟩) (show w.heap.size ≠ v5.heap.size by omega) _
      have HN_9 : Hid (Blk v9 v5.heap.size 27 #[.int .i64 (2 + x), .int .i64 (1000 - q), .int .i64 (1 + z)]) := by rw [hv9]; exact (HN_8.out).set_ 1 _
      clear lt_N r_N0 z_N0 r_N1 z_N1 r_N2 z_N2
      clear hv9 HW_8 HL_8 HB_9 HR_8 HN_8
      refine (l1Once_any p 8 v9 HL_9.out (by omega) (by omega)).mono ?_
      rintro e v10 ⟨b2, rfl, L_10, W_10⟩
      have hz_10 : w.heap.size ≤ v10.heap.size := Nat.le_trans hz_9 W_10.size
      have hy_10 := W_10.size
      have HW_10 := Lib.hid (wrote_trans HW_9.out W_10)
      have HL_10 := Lib.hid L_10
      have HR_10 := Lib.hid (HR_9.out.wroteA W_10 (fun a ha => by obtain rfl := Option.some.inj ha; show p ≠ w.heap.size; omega))
      have HN_10 := Lib.hid (HN_9.out.wroteA W_10 (fun a ha => by obtain rfl := Option.some.inj ha; show p ≠ v5.heap.size; omega))
      clear HW_9 HL_9 L_10 W_10 HR_9 HN_9
      cases b2 with
      | true =>
        go_wp2_with fail
        refine calls_named ?_
        rintro v11 hv11
        have hz_11 : w.heap.size ≤ v11.heap.size := by rw [hv11]; (try simp only [size_set, World.size_alloc]); omega
        have hy_11 : v10.heap.size + 1 ≤ v11.heap.size := by rw [hv11]; (try simp only [size_set, World.size_alloc]); omega
        have HB_11 : Hid (Below w.heap.size v10 v11) := by rw [hv11]; exact (Below.refl w.heap.size v10).alloc (by (try simp only [size_set, World.size_alloc]); omega) _
        have HW_11 : Hid (Wrote w v11 (some ⟨p, 0, none⟩)) := Lib.hid (wrote_grow HW_10.out HB_11.out (Nat.le_refl _))
        have HL_11 : Hid (LC v11 p 74) := Lib.hid (HL_10.out.below HB_11.out hp)
        have HR_11 : Hid (Blk v11 w.heap.size 27 #[.int .i64 0, .int .i64 0, .int .i64 0]) := by rw [hv11]; exact (HR_10.out).alloc _
        have HN_11 : Hid (Blk v11 v5.heap.size 27 #[.int .i64 (2 + x), .int .i64 (1000 - q), .int .i64 (1 + z)]) := by rw [hv11]; exact (HN_10.out).alloc _
        have HQ_11 : Hid (Blk v11 v10.heap.size 2 #[.int .i64 999999, .int .i64 1000000, .int .i64 1000001, .int .i64 1001000]) := by rw [hv11]; exact (Blk.new_at _ _ _ _ (by simp [size_set]))
        clear hv11 HW_10 HL_10 HB_11 HR_10 HN_10
        refine (l1Below_any p 4 v11 HL_11.out (by omega) (by omega)).mono ?_
        rintro e v12 ⟨s, rfl, ⟨s0, s1⟩, L_12, W_12⟩
        have hz_12 : w.heap.size ≤ v12.heap.size := Nat.le_trans hz_11 W_12.size
        have hy_12 := W_12.size
        have HW_12 := Lib.hid (wrote_trans HW_11.out W_12)
        have HL_12 := Lib.hid L_12
        have HR_12 := Lib.hid (HR_11.out.wroteA W_12 (fun a ha => by obtain rfl := Option.some.inj ha; show p ≠ w.heap.size; omega))
        have HN_12 := Lib.hid (HN_11.out.wroteA W_12 (fun a ha => by obtain rfl := Option.some.inj ha; show p ≠ v5.heap.size; omega))
        have HQ_12 := Lib.hid (HQ_11.out.wroteA W_12 (fun a ha => by obtain rfl := Option.some.inj ha; show p ≠ v10.heap.size; omega))
        clear HW_11 HL_11 L_12 W_12 HR_11 HN_11 HQ_11
        obtain ⟨ks, rfl⟩ : ∃ k : Nat, s = k := ⟨s.toNat, by omega⟩
        obtain ⟨u, hu⟩ := lit_cell [999999, 1000000, 1000001, 1001000] HQ_12.out ks (by simp; omega)
        have lt_Q := HQ_12.out.lt
        clear HQ_12
        have lt_N := HN_12.out.lt
        have r_N0 : v12.cell? ⟨v5.heap.size, 0, none⟩ = some (.int .i64 (2 + x)) := HN_12.out.cell 0
        have z_N0 := HN_12.out.frozen 0
        have r_N1 : v12.cell? ⟨v5.heap.size, 1, none⟩ = some (.int .i64 (1000 - q)) := HN_12.out.cell 1
        have z_N1 := HN_12.out.frozen 1
        have r_N2 : v12.cell? ⟨v5.heap.size, 2, none⟩ = some (.int .i64 (1 + z)) := HN_12.out.cell 2
        have z_N2 := HN_12.out.frozen 2
        have lt_R := HR_12.out.lt
        have r_R0 : v12.cell? ⟨w.heap.size, 0, none⟩ = some (.int .i64 0) := HR_12.out.cell 0
        have z_R0 := HR_12.out.frozen 0
        have r_R1 : v12.cell? ⟨w.heap.size, 1, none⟩ = some (.int .i64 0) := HR_12.out.cell 1
        have z_R1 := HR_12.out.frozen 1
        have r_R2 : v12.cell? ⟨w.heap.size, 2, none⟩ = some (.int .i64 0) := HR_12.out.cell 2
        have z_R2 := HR_12.out.frozen 2
        go_wp2
        refine bodyPost_ret (v := .agg #[.int .i64 (2 + x), .int .i64 (1000 - q), .int .i64 u]) (by simp [results, Try.results72, go_sem, *]) rfl ⟨_, _, _, rfl, by (repeat (first | (with_reducible exact HL_12.out) | (with_reducible refine LC.far ?_ ?_ _; rotate_left; ((try dsimp only); omega)) | (with_reducible refine LC.alloc ?_ _))), by (repeat (first | (with_reducible exact HW_12.out) | (with_reducible refine wrote_far ?_ ?_ _; rotate_left; ((try dsimp only); omega)) | (with_reducible refine wrote_alloc ?_ _)))⟩
      | false =>
        have lt_N := HN_10.out.lt
        have r_N0 : v10.cell? ⟨v5.heap.size, 0, none⟩ = some (.int .i64 (2 + x)) := HN_10.out.cell 0
        have z_N0 := HN_10.out.frozen 0
        have r_N1 : v10.cell? ⟨v5.heap.size, 1, none⟩ = some (.int .i64 (1000 - q)) := HN_10.out.cell 1
        have z_N1 := HN_10.out.frozen 1
        have r_N2 : v10.cell? ⟨v5.heap.size, 2, none⟩ = some (.int .i64 (1 + z)) := HN_10.out.cell 2
        have z_N2 := HN_10.out.frozen 2
        have lt_R := HR_10.out.lt
        have r_R0 : v10.cell? ⟨w.heap.size, 0, none⟩ = some (.int .i64 0) := HR_10.out.cell 0
        have z_R0 := HR_10.out.frozen 0
        have r_R1 : v10.cell? ⟨w.heap.size, 1, none⟩ = some (.int .i64 0) := HR_10.out.cell 1
        have z_R1 := HR_10.out.frozen 1
        have r_R2 : v10.cell? ⟨w.heap.size, 2, none⟩ = some (.int .i64 0) := HR_10.out.cell 2
        have z_R2 := HR_10.out.frozen 2
        go_wp2
        refine bodyPost_ret (v := .agg #[.int .i64 (2 + x), .int .i64 (1000 - q), .int .i64 (1 + z)]) (by simp [results, Try.results72, go_sem, *]) rfl ⟨_, _, _, rfl, by (repeat (first | (with_reducible exact HL_10.out) | (with_reducible refine LC.far ?_ ?_ _; rotate_left; ((try dsimp only); omega)) | (with_reducible refine LC.alloc ?_ _))), by (repeat (first | (with_reducible exact HW_10.out) | (with_reducible refine wrote_far ?_ ?_ _; rotate_left; ((try dsimp only); omega)) | (with_reducible refine wrote_alloc ?_ _)))⟩
    | false =>
      go_wp2_with fail
      refine (l1Once_any p 8 v7 HL_7.out (by omega) (by omega)).mono ?_
      rintro e v8 ⟨b2, rfl, L_8, W_8⟩
      have hz_8 : w.heap.size ≤ v8.heap.size := Nat.le_trans hz_7 W_8.size
      have hy_8 := W_8.size
      have HW_8 := Lib.hid (wrote_trans HW_7.out W_8)
      have HL_8 := Lib.hid L_8
      have HR_8 := Lib.hid (HR_7.out.wroteA W_8 (fun a ha => by obtain rfl := Option.some.inj ha; show p ≠ w.heap.size; omega))
      have HN_8 := Lib.hid (HN_7.out.wroteA W_8 (fun a ha => by obtain rfl := Option.some.inj ha; show p ≠ v5.heap.size; omega))
      clear HW_7 HL_7 L_8 W_8 HR_7 HN_7
      cases b2 with
      | true =>
        go_wp2_with fail
        refine calls_named ?_
        rintro v9 hv9
        have hz_9 : w.heap.size ≤ v9.heap.size := by rw [hv9]; (try simp only [size_set, World.size_alloc]); omega
        have hy_9 : v8.heap.size + 1 ≤ v9.heap.size := by rw [hv9]; (try simp only [size_set, World.size_alloc]); omega
        have HB_9 : Hid (Below w.heap.size v8 v9) := by rw [hv9]; exact (Below.refl w.heap.size v8).alloc (by (try simp only [size_set, World.size_alloc]); omega) _
        have HW_9 : Hid (Wrote w v9 (some ⟨p, 0, none⟩)) := Lib.hid (wrote_grow HW_8.out HB_9.out (Nat.le_refl _))
        have HL_9 : Hid (LC v9 p 74) := Lib.hid (HL_8.out.below HB_9.out hp)
        have HR_9 : Hid (Blk v9 w.heap.size 27 #[.int .i64 0, .int .i64 0, .int .i64 0]) := by rw [hv9]; exact (HR_8.out).alloc _
        have HN_9 : Hid (Blk v9 v5.heap.size 27 #[.int .i64 (2 + x), .int .i64 (1 + y), .int .i64 (1 + z)]) := by rw [hv9]; exact (HN_8.out).alloc _
        have HQ_9 : Hid (Blk v9 v8.heap.size 2 #[.int .i64 999999, .int .i64 1000000, .int .i64 1000001, .int .i64 1001000]) := by rw [hv9]; exact (Blk.new_at _ _ _ _ (by simp [size_set]))
        clear hv9 HW_8 HL_8 HB_9 HR_8 HN_8
        refine (l1Below_any p 4 v9 HL_9.out (by omega) (by omega)).mono ?_
        rintro e v10 ⟨s, rfl, ⟨s0, s1⟩, L_10, W_10⟩
        have hz_10 : w.heap.size ≤ v10.heap.size := Nat.le_trans hz_9 W_10.size
        have hy_10 := W_10.size
        have HW_10 := Lib.hid (wrote_trans HW_9.out W_10)
        have HL_10 := Lib.hid L_10
        have HR_10 := Lib.hid (HR_9.out.wroteA W_10 (fun a ha => by obtain rfl := Option.some.inj ha; show p ≠ w.heap.size; omega))
        have HN_10 := Lib.hid (HN_9.out.wroteA W_10 (fun a ha => by obtain rfl := Option.some.inj ha; show p ≠ v5.heap.size; omega))
        have HQ_10 := Lib.hid (HQ_9.out.wroteA W_10 (fun a ha => by obtain rfl := Option.some.inj ha; show p ≠ v8.heap.size; omega))
        clear HW_9 HL_9 L_10 W_10 HR_9 HN_9 HQ_9
        obtain ⟨ks, rfl⟩ : ∃ k : Nat, s = k := ⟨s.toNat, by omega⟩
        obtain ⟨u, hu⟩ := lit_cell [999999, 1000000, 1000001, 1001000] HQ_10.out ks (by simp; omega)
        have lt_Q := HQ_10.out.lt
        clear HQ_10
        have lt_N := HN_10.out.lt
        have r_N0 : v10.cell? ⟨v5.heap.size, 0, none⟩ = some (.int .i64 (2 + x)) := HN_10.out.cell 0
        have z_N0 := HN_10.out.frozen 0
        have r_N1 : v10.cell? ⟨v5.heap.size, 1, none⟩ = some (.int .i64 (1 + y)) := HN_10.out.cell 1
        have z_N1 := HN_10.out.frozen 1
        have r_N2 : v10.cell? ⟨v5.heap.size, 2, none⟩ = some (.int .i64 (1 + z)) := HN_10.out.cell 2
        have z_N2 := HN_10.out.frozen 2
        have lt_R := HR_10.out.lt
        have r_R0 : v10.cell? ⟨w.heap.size, 0, none⟩ = some (.int .i64 0) := HR_10.out.cell 0
        have z_R0 := HR_10.out.frozen 0
        have r_R1 : v10.cell? ⟨w.heap.size, 1, none⟩ = some (.int .i64 0) := HR_10.out.cell 1
        have z_R1 := HR_10.out.frozen 1
        have r_R2 : v10.cell? ⟨w.heap.size, 2, none⟩ = some (.int .i64 0) := HR_10.out.cell 2
        have z_R2 := HR_10.out.frozen 2
        go_wp2
        refine bodyPost_ret (v := .agg #[.int .i64 (2 + x), .int .i64 (1 + y), .int .i64 u]) (by simp [results, Try.results72, go_sem, *]) rfl ⟨_, _, _, rfl, by (repeat (first | (with_reducible exact HL_10.out) | (with_reducible refine LC.far ?_ ?_ _; rotate_left; ((try dsimp only); omega)) | (with_reducible refine LC.alloc ?_ _))), by (repeat (first | (with_reducible exact HW_10.out) | (with_reducible refine wrote_far ?_ ?_ _; rotate_left; ((try dsimp only); omega)) | (with_reducible refine wrote_alloc ?_ _)))⟩
      | false =>
        have lt_N := HN_8.out.lt
        have r_N0 : v8.cell? ⟨v5.heap.size, 0, none⟩ = some (.int .i64 (2 + x)) := HN_8.out.cell 0
        have z_N0 := HN_8.out.frozen 0
        have r_N1 : v8.cell? ⟨v5.heap.size, 1, none⟩ = some (.int .i64 (1 + y)) := HN_8.out.cell 1
        have z_N1 := HN_8.out.frozen 1
        have r_N2 : v8.cell? ⟨v5.heap.size, 2, none⟩ = some (.int .i64 (1 + z)) := HN_8.out.cell 2
        have z_N2 := HN_8.out.frozen 2
        have lt_R := HR_8.out.lt
        have r_R0 : v8.cell? ⟨w.heap.size, 0, none⟩ = some (.int .i64 0) := HR_8.out.cell 0
        have z_R0 := HR_8.out.frozen 0
        have r_R1 : v8.cell? ⟨w.heap.size, 1, none⟩ = some (.int .i64 0) := HR_8.out.cell 1
        have z_R1 := HR_8.out.frozen 1
        have r_R2 : v8.cell? ⟨w.heap.size, 2, none⟩ = some (.int .i64 0) := HR_8.out.cell 2
        have z_R2 := HR_8.out.frozen 2
        go_wp2
        refine bodyPost_ret (v := .agg #[.int .i64 (2 + x), .int .i64 (1 + y), .int .i64 (1 + z)]) (by simp [results, Try.results72, go_sem, *]) rfl ⟨_, _, _, rfl, by (repeat (first | (with_reducible exact HL_8.out) | (with_reducible refine LC.far ?_ ?_ _; rotate_left; ((try dsimp only); omega)) | (with_reducible refine LC.alloc ?_ _))), by (repeat (first | (with_reducible exact HW_8.out) | (with_reducible refine wrote_far ?_ ?_ _; rotate_left; ((try dsimp only); omega)) | (with_reducible refine wrote_alloc ?_ _)))⟩
set_option maxRecDepth 100000 in
set_option maxHeartbeats 4000000 in
theorem l16DrawAny_any (p : Nat) (w : World) (hL : LC w p 74) : Calls Try.prog 40 #[.pointer (some ⟨p, 0, none⟩)] w (fun e w' => ∃ h e' u, e = .returned (.agg #[.int .i64 h, .int .i64 e', .int .i64 u]) ∧ LC w' p 74 ∧ Wrote w w' (some ⟨p, 0, none⟩)) := by
  have HL_0 := Lib.hid hL
  have hp := hL.lt
  clear hL
  have HW_0 : Hid (Wrote w w (some ⟨p, 0, none⟩)) := Lib.hid (wrote_refl _ _)
  have hz_0 : w.heap.size ≤ w.heap.size := Nat.le_refl _
  go_enter Try.func40, Try.ntmps40
  go_wp2_with fail
  refine calls_named ?_
  rintro v1 hv1
  have hz_1 : w.heap.size ≤ v1.heap.size := by rw [hv1]; (try simp only [size_set, World.size_alloc]); omega
  have hy_1 : w.heap.size + 1 ≤ v1.heap.size := by rw [hv1]; (try simp only [size_set, World.size_alloc]); omega
  have HB_1 : Hid (Below w.heap.size w v1) := by rw [hv1]; exact (Below.refl w.heap.size w).alloc (by (try simp only [size_set, World.size_alloc]); omega) _
  have HW_1 : Hid (Wrote w v1 (some ⟨p, 0, none⟩)) := Lib.hid (wrote_grow HW_0.out HB_1.out (Nat.le_refl _))
  have HL_1 : Hid (LC v1 p 74) := Lib.hid (HL_0.out.below HB_1.out hp)
  have HR_1 : Hid (Blk v1 w.heap.size 27 #[.int .i64 0, .int .i64 0, .int .i64 0]) := by rw [hv1]; exact (Blk.new_at _ _ _ _ (by simp [size_set]))
  clear hv1 HW_0 HL_0 HB_1 
  refine (l16Draw_any p v1 HL_1.out).mono ?_
  rintro e v2 ⟨x, y, z, rfl, L_2, W_2⟩
  have hz_2 : w.heap.size ≤ v2.heap.size := Nat.le_trans hz_1 W_2.size
  have hy_2 := W_2.size
  have HW_2 := Lib.hid (wrote_trans HW_1.out W_2)
  have HL_2 := Lib.hid L_2
  have HR_2 := Lib.hid (HR_1.out.wroteA W_2 (fun a ha => by obtain rfl := Option.some.inj ha; show p ≠ w.heap.size; omega))
  clear HW_1 HL_1 L_2 W_2 HR_1
  go_wp2_with fail
  refine calls_named ?_
  rintro v3 hv3
  have hz_3 : w.heap.size ≤ v3.heap.size := by rw [hv3]; (try simp only [size_set, World.size_alloc]); omega
  have hy_3 : v2.heap.size + 1 ≤ v3.heap.size := by rw [hv3]; (try simp only [size_set, World.size_alloc]); omega
  have HB_3 : Hid (Below w.heap.size v2 v3) := by rw [hv3]; exact (Below.refl w.heap.size v2).alloc (by (try simp only [size_set, World.size_alloc]); omega) _
  have HW_3 : Hid (Wrote w v3 (some ⟨p, 0, none⟩)) := Lib.hid (wrote_grow HW_2.out HB_3.out (Nat.le_refl _))
  have HL_3 : Hid (LC v3 p 74) := Lib.hid (HL_2.out.below HB_3.out hp)
  have HR_3 : Hid (Blk v3 w.heap.size 27 #[.int .i64 0, .int .i64 0, .int .i64 0]) := by rw [hv3]; exact (HR_2.out).alloc _
  have HN_3 : Hid (Blk v3 v2.heap.size 27 #[.int .i64 x, .int .i64 y, .int .i64 z]) := by rw [hv3]; exact (Blk.new_at _ _ _ _ (by simp [size_set]))
  clear hv3 HW_2 HL_2 HB_3 HR_2
  refine (l1Once_any p 6 v3 HL_3.out (by omega) (by omega)).mono ?_
  rintro e v4 ⟨b, rfl, L_4, W_4⟩
  have hz_4 : w.heap.size ≤ v4.heap.size := Nat.le_trans hz_3 W_4.size
  have hy_4 := W_4.size
  have HW_4 := Lib.hid (wrote_trans HW_3.out W_4)
  have HL_4 := Lib.hid L_4
  have HR_4 := Lib.hid (HR_3.out.wroteA W_4 (fun a ha => by obtain rfl := Option.some.inj ha; show p ≠ w.heap.size; omega))
  have HN_4 := Lib.hid (HN_3.out.wroteA W_4 (fun a ha => by obtain rfl := Option.some.inj ha; show p ≠ v2.heap.size; omega))
  clear HW_3 HL_3 L_4 W_4 HR_3 HN_3
  cases b with
  | false =>
    have lt_N := HN_4.out.lt
    have r_N0 : v4.cell? ⟨v2.heap.size, 0, none⟩ = some (.int .i64 x) := HN_4.out.cell 0
    have z_N0 := HN_4.out.frozen 0
    have r_N1 : v4.cell? ⟨v2.heap.size, 1, none⟩ = some (.int .i64 y) := HN_4.out.cell 1
    have z_N1 := HN_4.out.frozen 1
    have r_N2 : v4.cell? ⟨v2.heap.size, 2, none⟩ = some (.int .i64 z) := HN_4.out.cell 2
    have z_N2 := HN_4.out.frozen 2
    have lt_R := HR_4.out.lt
    have r_R0 : v4.cell? ⟨w.heap.size, 0, none⟩ = some (.int .i64 0) := HR_4.out.cell 0
    have z_R0 := HR_4.out.frozen 0
    have r_R1 : v4.cell? ⟨w.heap.size, 1, none⟩ = some (.int .i64 0) := HR_4.out.cell 1
    have z_R1 := HR_4.out.frozen 1
    have r_R2 : v4.cell? ⟨w.heap.size, 2, none⟩ = some (.int .i64 0) := HR_4.out.cell 2
    have z_R2 := HR_4.out.frozen 2
    go_wp2
    refine bodyPost_ret (v := .agg #[.int .i64 x, .int .i64 y, .int .i64 z]) (by simp [results, Try.results40, go_sem, *]) rfl ⟨_, _, _, rfl, by (repeat (first | (with_reducible exact HL_4.out) | (with_reducible refine LC.far ?_ ?_ _; rotate_left; ((try dsimp only); omega)) | (with_reducible refine LC.alloc ?_ _))), by (repeat (first | (with_reducible exact HW_4.out) | (with_reducible refine wrote_far ?_ ?_ _; rotate_left; ((try dsimp only); omega)) | (with_reducible refine wrote_alloc ?_ _)))⟩
  | true =>
    go_wp2_with fail
    refine (l1Below_any p 3 v4 HL_4.out (by omega) (by omega)).mono ?_
    rintro e v5 ⟨s, rfl, ⟨s0, s1⟩, L_5, W_5⟩
    have hz_5 : w.heap.size ≤ v5.heap.size := Nat.le_trans hz_4 W_5.size
    have hy_5 := W_5.size
    have HW_5 := Lib.hid (wrote_trans HW_4.out W_5)
    have HL_5 := Lib.hid L_5
    have HR_5 := Lib.hid (HR_4.out.wroteA W_5 (fun a ha => by obtain rfl := Option.some.inj ha; show p ≠ w.heap.size; omega))
    have HN_5 := Lib.hid (HN_4.out.wroteA W_5 (fun a ha => by obtain rfl := Option.some.inj ha; show p ≠ v2.heap.size; omega))
    clear HW_4 HL_4 L_5 W_5 HR_4 HN_4
    rcases (by omega : s = 0 ∨ s = 1 ∨ s = 2) with rfl | rfl | rfl
    · skip
      go_wp2_with fail
      refine calls_named ?_
      rintro v6 hv6
      have hz_6 : w.heap.size ≤ v6.heap.size := by rw [hv6]; (try simp only [size_set, World.size_alloc]); omega
      have hy_6 : v5.heap.size + 1 ≤ v6.heap.size := by rw [hv6]; (try simp only [size_set, World.size_alloc]); omega
      have HB_6 : Hid (Below w.heap.size v5 v6) := by rw [hv6]; exact (Below.refl w.heap.size v5).alloc (by (try simp only [size_set, World.size_alloc]); omega) _
      have HW_6 : Hid (Wrote w v6 (some ⟨p, 0, none⟩)) := Lib.hid (wrote_grow HW_5.out HB_6.out (Nat.le_refl _))
      have HL_6 : Hid (LC v6 p 74) := Lib.hid (HL_5.out.below HB_6.out hp)
      have HR_6 : Hid (Blk v6 w.heap.size 27 #[.int .i64 0, .int .i64 0, .int .i64 0]) := by rw [hv6]; exact (HR_5.out).alloc _
      have HN_6 : Hid (Blk v6 v2.heap.size 27 #[.int .i64 x, .int .i64 y, .int .i64 z]) := by rw [hv6]; exact (HN_5.out).alloc _
      have HQ_6 : Hid (Blk v6 v5.heap.size 2 #[.int .i64 0, .int .i64 1, .int .i64 4, .int .i64 (-1)]) := by rw [hv6]; exact (Blk.new_at _ _ _ _ (by simp [size_set]))
      clear hv6 HW_5 HL_5 HB_6 HR_5 HN_5
      refine (l1Below_any p 4 v6 HL_6.out (by omega) (by omega)).mono ?_
      rintro e v7 ⟨t, rfl, ⟨t0, t1⟩, L_7, W_7⟩
      have hz_7 : w.heap.size ≤ v7.heap.size := Nat.le_trans hz_6 W_7.size
      have hy_7 := W_7.size
      have HW_7 := Lib.hid (wrote_trans HW_6.out W_7)
      have HL_7 := Lib.hid L_7
      have HR_7 := Lib.hid (HR_6.out.wroteA W_7 (fun a ha => by obtain rfl := Option.some.inj ha; show p ≠ w.heap.size; omega))
      have HN_7 := Lib.hid (HN_6.out.wroteA W_7 (fun a ha => by obtain rfl := Option.some.inj ha; show p ≠ v2.heap.size; omega))
      have HQ_7 := Lib.hid (HQ_6.out.wroteA W_7 (fun a ha => by obtain rfl := Option.some.inj ha; show p ≠ v5.heap.size; omega))
      clear HW_6 HL_6 L_7 W_7 HR_6 HN_6 HQ_6
      obtain ⟨kt, rfl⟩ : ∃ k : Nat, t = k := ⟨t.toNat, by omega⟩
      obtain ⟨u, hu⟩ := lit_cell [0, 1, 4, -1] HQ_7.out kt (by simp; omega)
      have lt_Q := HQ_7.out.lt
      clear HQ_7
      have lt_N := HN_7.out.lt
      have r_N0 : v7.cell? ⟨v2.heap.size, 0, none⟩ = some (.int .i64 x) := HN_7.out.cell 0
      have z_N0 := HN_7.out.frozen 0
      have r_N1 : v7.cell? ⟨v2.heap.size, 1, none⟩ = some (.int .i64 y) := HN_7.out.cell 1
      have z_N1 := HN_7.out.frozen 1
      have r_N2 : v7.cell? ⟨v2.heap.size, 2, none⟩ = some (.int .i64 z) := HN_7.out.cell 2
      have z_N2 := HN_7.out.frozen 2
      have lt_R := HR_7.out.lt
      have r_R0 : v7.cell? ⟨w.heap.size, 0, none⟩ = some (.int .i64 0) := HR_7.out.cell 0
      have z_R0 := HR_7.out.frozen 0
      have r_R1 : v7.cell? ⟨w.heap.size, 1, none⟩ = some (.int .i64 0) := HR_7.out.cell 1
      have z_R1 := HR_7.out.frozen 1
      have r_R2 : v7.cell? ⟨w.heap.size, 2, none⟩ = some (.int .i64 0) := HR_7.out.cell 2
      have z_R2 := HR_7.out.frozen 2
      go_wp2
      refine bodyPost_ret (v := .agg #[.int .i64 u, .int .i64 y, .int .i64 z]) (by simp [results, Try.results40, go_sem, *]) rfl ⟨_, _, _, rfl, by (repeat (first | (with_reducible exact HL_7.out) | (with_reducible refine LC.far ?_ ?_ _; rotate_left; ((try dsimp only); omega)) | (with_reducible refine LC.alloc ?_ _))), by (repeat (first | (with_reducible exact HW_7.out) | (with_reducible refine wrote_far ?_ ?_ _; rotate_left; ((try dsimp only); omega)) | (with_reducible refine wrote_alloc ?_ _)))⟩
    · skip
      go_wp2_with fail
      refine calls_named ?_
      rintro v6 hv6
      have hz_6 : w.heap.size ≤ v6.heap.size := by rw [hv6]; (try simp only [size_set, World.size_alloc]); omega
      have hy_6 : v5.heap.size + 1 ≤ v6.heap.size := by rw [hv6]; (try simp only [size_set, World.size_alloc]); omega
      have HB_6 : Hid (Below w.heap.size v5 v6) := by rw [hv6]; exact (Below.refl w.heap.size v5).alloc (by (try simp only [size_set, World.size_alloc]); omega) _
      have HW_6 : Hid (Wrote w v6 (some ⟨p, 0, none⟩)) := Lib.hid (wrote_grow HW_5.out HB_6.out (Nat.le_refl _))
      have HL_6 : Hid (LC v6 p 74) := Lib.hid (HL_5.out.below HB_6.out hp)
      have HR_6 : Hid (Blk v6 w.heap.size 27 #[.int .i64 0, .int .i64 0, .int .i64 0]) := by rw [hv6]; exact (HR_5.out).alloc _
      have HN_6 : Hid (Blk v6 v2.heap.size 27 #[.int .i64 x, .int .i64 y, .int .i64 z]) := by rw [hv6]; exact (HN_5.out).alloc _
      have HQ_6 : Hid (Blk v6 v5.heap.size 2 #[.int .i64 0, .int .i64 (-1), .int .i64 1001]) := by rw [hv6]; exact (Blk.new_at _ _ _ _ (by simp [size_set]))
      clear hv6 HW_5 HL_5 HB_6 HR_5 HN_5
      refine (l1Below_any p 3 v6 HL_6.out (by omega) (by omega)).mono ?_
      rintro e v7 ⟨t, rfl, ⟨t0, t1⟩, L_7, W_7⟩
      have hz_7 : w.heap.size ≤ v7.heap.size := Nat.le_trans hz_6 W_7.size
      have hy_7 := W_7.size
      have HW_7 := Lib.hid (wrote_trans HW_6.out W_7)
      have HL_7 := Lib.hid L_7
      have HR_7 := Lib.hid (HR_6.out.wroteA W_7 (fun a ha => by obtain rfl := Option.some.inj ha; show p ≠ w.heap.size; omega))
      have HN_7 := Lib.hid (HN_6.out.wroteA W_7 (fun a ha => by obtain rfl := Option.some.inj ha; show p ≠ v2.heap.size; omega))
      have HQ_7 := Lib.hid (HQ_6.out.wroteA W_7 (fun a ha => by obtain rfl := Option.some.inj ha; show p ≠ v5.heap.size; omega))
      clear HW_6 HL_6 L_7 W_7 HR_6 HN_6 HQ_6
      obtain ⟨kt, rfl⟩ : ∃ k : Nat, t = k := ⟨t.toNat, by omega⟩
      obtain ⟨u, hu⟩ := lit_cell [0, -1, 1001] HQ_7.out kt (by simp; omega)
      have lt_Q := HQ_7.out.lt
      clear HQ_7
      have lt_N := HN_7.out.lt
      have r_N0 : v7.cell? ⟨v2.heap.size, 0, none⟩ = some (.int .i64 x) := HN_7.out.cell 0
      have z_N0 := HN_7.out.frozen 0
      have r_N1 : v7.cell? ⟨v2.heap.size, 1, none⟩ = some (.int .i64 y) := HN_7.out.cell 1
      have z_N1 := HN_7.out.frozen 1
      have r_N2 : v7.cell? ⟨v2.heap.size, 2, none⟩ = some (.int .i64 z) := HN_7.out.cell 2
      have z_N2 := HN_7.out.frozen 2
      have lt_R := HR_7.out.lt
      have r_R0 : v7.cell? ⟨w.heap.size, 0, none⟩ = some (.int .i64 0) := HR_7.out.cell 0
      have z_R0 := HR_7.out.frozen 0
      have r_R1 : v7.cell? ⟨w.heap.size, 1, none⟩ = some (.int .i64 0) := HR_7.out.cell 1
      have z_R1 := HR_7.out.frozen 1
      have r_R2 : v7.cell? ⟨w.heap.size, 2, none⟩ = some (.int .i64 0) := HR_7.out.cell 2
      have z_R2 := HR_7.out.frozen 2
      go_wp2
      refine bodyPost_ret (v := .agg #[.int .i64 x, .int .i64 u, .int .i64 z]) (by simp [results, Try.results40, go_sem, *]) rfl ⟨_, _, _, rfl, by (repeat (first | (with_reducible exact HL_7.out) | (with_reducible refine LC.far ?_ ?_ _; rotate_left; ((try dsimp only); omega)) | (with_reducible refine LC.alloc ?_ _))), by (repeat (first | (with_reducible exact HW_7.out) | (with_reducible refine wrote_far ?_ ?_ _; rotate_left; ((try dsimp only); omega)) | (with_reducible refine wrote_alloc ?_ _)))⟩
    · skip
      go_wp2_with fail
      refine calls_named ?_
      rintro v6 hv6
      have hz_6 : w.heap.size ≤ v6.heap.size := by rw [hv6]; (try simp only [size_set, World.size_alloc]); omega
      have hy_6 : v5.heap.size + 1 ≤ v6.heap.size := by rw [hv6]; (try simp only [size_set, World.size_alloc]); omega
      have HB_6 : Hid (Below w.heap.size v5 v6) := by rw [hv6]; exact (Below.refl w.heap.size v5).alloc (by (try simp only [size_set, World.size_alloc]); omega) _
      have HW_6 : Hid (Wrote w v6 (some ⟨p, 0, none⟩)) := Lib.hid (wrote_grow HW_5.out HB_6.out (Nat.le_refl _))
      have HL_6 : Hid (LC v6 p 74) := Lib.hid (HL_5.out.below HB_6.out hp)
      have HR_6 : Hid (Blk v6 w.heap.size 27 #[.int .i64 0, .int .i64 0, .int .i64 0]) := by rw [hv6]; exact (HR_5.out).alloc _
      have HN_6 : Hid (Blk v6 v2.heap.size 27 #[.int .i64 x, .int .i64 y, .int .i64 z]) := by rw [hv6]; exact (HN_5.out).alloc _
      have HQ_6 : Hid (Blk v6 v5.heap.size 2 #[.int .i64 0, .int .i64 (-1), .int .i64 1001001]) := by rw [hv6]; exact (Blk.new_at _ _ _ _ (by simp [size_set]))
      clear hv6 HW_5 HL_5 HB_6 HR_5 HN_5
      refine (l1Below_any p 3 v6 HL_6.out (by omega) (by omega)).mono ?_
      rintro e v7 ⟨t, rfl, ⟨t0, t1⟩, L_7, W_7⟩
      have hz_7 : w.heap.size ≤ v7.heap.size := Nat.le_trans hz_6 W_7.size
      have hy_7 := W_7.size
      have HW_7 := Lib.hid (wrote_trans HW_6.out W_7)
      have HL_7 := Lib.hid L_7
      have HR_7 := Lib.hid (HR_6.out.wroteA W_7 (fun a ha => by obtain rfl := Option.some.inj ha; show p ≠ w.heap.size; omega))
      have HN_7 := Lib.hid (HN_6.out.wroteA W_7 (fun a ha => by obtain rfl := Option.some.inj ha; show p ≠ v2.heap.size; omega))
      have HQ_7 := Lib.hid (HQ_6.out.wroteA W_7 (fun a ha => by obtain rfl := Option.some.inj ha; show p ≠ v5.heap.size; omega))
      clear HW_6 HL_6 L_7 W_7 HR_6 HN_6 HQ_6
      obtain ⟨kt, rfl⟩ : ∃ k : Nat, t = k := ⟨t.toNat, by omega⟩
      obtain ⟨u, hu⟩ := lit_cell [0, -1, 1001001] HQ_7.out kt (by simp; omega)
      have lt_Q := HQ_7.out.lt
      clear HQ_7
      have lt_N := HN_7.out.lt
      have r_N0 : v7.cell? ⟨v2.heap.size, 0, none⟩ = some (.int .i64 x) := HN_7.out.cell 0
      have z_N0 := HN_7.out.frozen 0
      have r_N1 : v7.cell? ⟨v2.heap.size, 1, none⟩ = some (.int .i64 y) := HN_7.out.cell 1
      have z_N1 := HN_7.out.frozen 1
      have r_N2 : v7.cell? ⟨v2.heap.size, 2, none⟩ = some (.int .i64 z) := HN_7.out.cell 2
      have z_N2 := HN_7.out.frozen 2
      have lt_R := HR_7.out.lt
      have r_R0 : v7.cell? ⟨w.heap.size, 0, none⟩ = some (.int .i64 0) := HR_7.out.cell 0
      have z_R0 := HR_7.out.frozen 0
      have r_R1 : v7.cell? ⟨w.heap.size, 1, none⟩ = some (.int .i64 0) := HR_7.out.cell 1
      have z_R1 := HR_7.out.frozen 1
      have r_R2 : v7.cell? ⟨w.heap.size, 2, none⟩ = some (.int .i64 0) := HR_7.out.cell 2
      have z_R2 := HR_7.out.frozen 2
      go_wp2
      refine bodyPost_ret (v := .agg #[.int .i64 x, .int .i64 y, .int .i64 u]) (by simp [results, Try.results40, go_sem, *]) rfl ⟨_, _, _, rfl, by (repeat (first | (with_reducible exact HL_7.out) | (with_reducible refine LC.far ?_ ?_ _; rotate_left; ((try dsimp only); omega)) | (with_reducible refine LC.alloc ?_ _))), by (repeat (first | (with_reducible exact HW_7.out) | (with_reducible refine wrote_far ?_ ?_ _; rotate_left; ((try dsimp only); omega)) | (with_reducible refine wrote_alloc ?_ _)))⟩
end Go.Proofs.Ytokklkmibjpjnaa
namespace Go.Proofs.Ytokklkmibjpjnaa
set_option linter.unusedSimpArgs false
set_option linter.unusedVariables false
attribute [local go_sem] n_lt2 n_lt3 n_lt4 n_le2 n_le3
open Go.RowKit

def jobB (a b c d e : Int) : Bool := inB a 1 20 && (inB b 0 1000000 && (inB c 0 9 && (inB d 0 999 && inB e 0 2000)))
set_option maxHeartbeats 400000 in
theorem jobOk_any (a b c d e : Int) (w : World) :
    Calls Try.prog 81 #[.agg #[.int .i64 a, .int .i64 b, .int .i64 c, .int .i64 d, .int .i64 e]] w fun e' w' => e' = .returned (.bool (jobB a b c d e)) ∧ Below w.heap.size w w' := by
  go_enter Try.func81, Try.ntmps81
  go_wp2_with (first | (go_at_call 88; refine (idOk_any _ _).mono ?_; rintro e w' ⟨rfl, rfl⟩) | (go_at_call 58; refine (timeOk_any _ _).mono ?_; rintro e w' ⟨rfl, rfl⟩) | (go_at_call 79; refine (keyOk_any _ _).mono ?_; rintro e w' ⟨rfl, rfl⟩) | (go_at_call 80; refine (valueOk_any _ _).mono ?_; rintro e w' ⟨rfl, rfl⟩) | (go_at_call 57; refine (between_any _ _ _ _).mono ?_; rintro e w' ⟨rfl, rfl⟩))
  all_goals (go_ret; unfold jobB; exact ⟨by simp [*], (Below.refl _ _).alloc (Nat.le_refl _) _⟩)
set_option maxHeartbeats 400000 in
theorem specJobOk_any (a b c d e : Int) (w : World) :
    Calls Try.prog 63 #[.agg #[.int .i64 a, .int .i64 b, .int .i64 c, .int .i64 d, .int .i64 e]] w fun e' w' => e' = .returned (.bool (jobB a b c d e)) ∧ Below w.heap.size w w' := by
  go_enter Try.func63, Try.ntmps63
  go_wp2_with ((go_at_call 27; refine (l1In_any _ _ _ _).mono ?_; rintro e w' ⟨rfl, rfl⟩))
  all_goals (go_ret; unfold jobB; exact ⟨by simp [*], (Below.refl _ _).alloc (Nat.le_refl _) _⟩)
end Go.Proofs.Ytokklkmibjpjnaa
namespace Go.Proofs.Ytokklkmibjpjnaa
set_option linter.unusedSimpArgs false
set_option linter.unusedVariables false
attribute [local go_sem] n_lt2 n_lt3 n_lt4 n_le2 n_le3
open Go.RowKit

structure Jb where
  i : Int
  d : Int
  k : Int
  v : Int
  f : Int
instance : Inhabited Jb := ⟨⟨0, 0, 0, 0, 0⟩⟩
/-- A job list, its numbers one behind the other. -/
def JB (l : List Jb) : List Int := l.flatMap fun j => [j.i, j.d, j.k, j.v, j.f]
theorem JB_len (l : List Jb) : (JB l).length = l.length * 5 := flat_len _ 5 l (fun _ _ => rfl)
theorem JB_get (l : List Jb) (i j : Nat) (h : i < l.length) (hj : j < 5) : (JB l).getD (i * 5 + j) 0 = [(l.getD i default).i, (l.getD i default).d, (l.getD i default).k, (l.getD i default).v, (l.getD i default).f].getD j 0 := by
  have := flat_getD (fun j : Jb => [j.i, j.d, j.k, j.v, j.f]) 5 l (fun _ _ => rfl) i j h hj
  have e : l.getD i default = l[i] := by simp [List.getD, h]
  rw [e]
  exact this
theorem JB_of : ∀ (n : Nat) (zs : List Int), zs.length = n * 5 → ∃ l : List Jb, l.length = n ∧ JB l = zs
  | 0, zs, h => ⟨[], rfl, by simpa [JB] using (List.eq_nil_of_length_eq_zero (by omega)).symm⟩
  | n + 1, a :: b :: c :: d :: e :: zs, h => by
    obtain ⟨l, hl, he⟩ := JB_of n zs (by simp at h; omega)
    exact ⟨⟨a, b, c, d, e⟩ :: l, by simp [hl], by rw [← he]; rfl⟩
  | n + 1, [], h => by simp at h
  | n + 1, [_], h => by simp at h; omega
  | n + 1, [_, _], h => by simp at h; omega
  | n + 1, [_, _, _], h => by simp at h; omega
  | n + 1, [_, _, _, _], h => by simp at h; omega
theorem sl_jobs {w : World} {A : Option Addr} {n : Nat} {l : List Jb} (h : Sl w 5 A n (JB l)) (hn : 0 < n) : ∃ b off, A = some ⟨b, off, none⟩ ∧ b < w.heap.size ∧
    ∀ i, i < n → w.cell? ⟨b, off + i * 5, none⟩ = some (.int .i64 (l.getD i default).i) ∧ w.cell? ⟨b, off + i * 5 + 1, none⟩ = some (.int .i64 (l.getD i default).d) ∧ w.cell? ⟨b, off + i * 5 + 2, none⟩ = some (.int .i64 (l.getD i default).k) ∧ w.cell? ⟨b, off + i * 5 + 3, none⟩ = some (.int .i64 (l.getD i default).v) ∧ w.cell? ⟨b, off + i * 5 + 4, none⟩ = some (.int .i64 (l.getD i default).f) := by
  have hl : l.length = n := by
    have := h.len
    rw [JB_len] at this
    omega
  obtain ⟨b, off, hA, hb, hc⟩ := h.at_ hn
  have hg : ∀ i, i < n → ∀ j, j < 5 → w.cell? ⟨b, off + i * 5 + j, none⟩ = some (.int .i64 ([(l.getD i default).i, (l.getD i default).d, (l.getD i default).k, (l.getD i default).v, (l.getD i default).f].getD j 0)) := fun i hi j hj => by
    rw [Nat.add_assoc, hc (i * 5 + j) (by omega), JB_get l i j (by omega) hj]
  exact ⟨b, off, hA, hb, fun i hi => ⟨hg i hi 0 (by decide), hg i hi 1 (by decide), hg i hi 2 (by decide), hg i hi 3 (by decide), hg i hi 4 (by decide)⟩⟩

def jobOkB (j : Jb) : Bool := jobB j.i j.d j.k j.v j.f
def firedBefore (l : List Jb) (i : Nat) (x : Int) : Bool := (List.range i).any (fun k => decide ((l.getD k default).f = x))
def jobAtB (l : List Jb) (i : Nat) : Bool := jobOkB (l.getD i default) && ((decide (i = 0) || decide ((l.getD (i-1) default).i < (l.getD i default).i)) && !(decide (0 < (l.getD i default).f) && firedBefore l i (l.getD i default).f))
def jobsB (l : List Jb) : Bool := decide (l.length ≤ 8) && (List.range l.length).all (jobAtB l)
theorem jobsB_true {l : List Jb} (h8 : l.length ≤ 8) (h : ∀ j, j < l.length → jobAtB l j = true) : jobsB l = true := by
  unfold jobsB; rw [all_range_true h]; simpa using h8
theorem jobsB_false {l : List Jb} {k : Nat} (hk : k < l.length) (h : jobAtB l k = false) : jobsB l = false := by
  unfold jobsB; rw [all_range_false hk h]; simp
theorem jobsB_long {l : List Jb} (h : 8 < l.length) : jobsB l = false := by
  unfold jobsB; simp; intro h'; omega
theorem jobsB_all {l : List Jb} (h : jobsB l = true) : l.length ≤ 8 ∧ ∀ j, j < l.length → jobAtB l j = true := by
  unfold jobsB at h
  simp only [Bool.and_eq_true, decide_eq_true_eq, List.all_eq_true] at h
  exact ⟨h.1, fun j hj => h.2 j (List.mem_range.2 hj)⟩
theorem firedBefore_false {l : List Jb} {i : Nat} {x : Int} (h : ∀ j, j < i → (l.getD j default).f ≠ x) : firedBefore l i x = false := by
  unfold firedBefore
  rw [List.any_eq_false]
  intro j hj
  simpa using h j (List.mem_range.1 hj)
theorem firedBefore_true {l : List Jb} {i j : Nat} {x : Int} (hj : j < i) (h : (l.getD j default).f = x) : firedBefore l i x = true := by
  unfold firedBefore
  rw [List.any_eq_true]
  exact ⟨j, List.mem_range.2 hj, by simpa using h⟩
theorem jobAtB_1 {l : List Jb} {i : Nat} (h : jobOkB (l.getD i default) = false) : jobAtB l i = false := by unfold jobAtB; rw [h]; rfl
theorem jobAtB_2 {l : List Jb} {i : Nat} (h0 : 0 < i) (h : (l.getD i default).i ≤ (l.getD (i-1) default).i) : jobAtB l i = false := by
  unfold jobAtB
  rw [show decide (i = 0) = false from decide_eq_false (by omega), show decide ((l.getD (i-1) default).i < (l.getD i default).i) = false from decide_eq_false (by omega)]
  simp
theorem jobAtB_3 {l : List Jb} {i : Nat} (h0 : 0 < (l.getD i default).f) (h : firedBefore l i (l.getD i default).f = true) : jobAtB l i = false := by
  unfold jobAtB
  rw [h, show decide (0 < (l.getD i default).f) = true by simpa using h0]
  simp
theorem jobAtB_4 {l : List Jb} {i : Nat} (h1 : jobOkB (l.getD i default) = true) (h2 : i = 0 ∨ (l.getD (i-1) default).i < (l.getD i default).i) (h3 : (l.getD i default).f ≤ 0 ∨ firedBefore l i (l.getD i default).f = false) : jobAtB l i = true := by
  unfold jobAtB
  rw [h1]
  have e2 : (decide (i = 0) || decide ((l.getD (i-1) default).i < (l.getD i default).i)) = true := by simpa using h2
  rw [e2]
  rcases h3 with h3 | h3
  · rw [show decide (0 < (l.getD i default).f) = false from decide_eq_false (by omega)]; rfl
  · rw [h3]; simp
theorem jobB_fired {a b c d e : Int} (h : jobB a b c d e = true) : 0 ≤ e ∧ e ≤ 2000 := by
  unfold jobB at h
  simp only [Bool.and_eq_true, inB_iff] at h
  omega
attribute [local go_sem] Ext.cell Ext.frozen

set_option maxHeartbeats 2000000 in
theorem specJobsOk_any (A : Option Addr) (n cap : Nat) (l : List Jb) (w : World) (hS : Sl w 5 A n (JB l)) (hl : l.length = n) (hn : n ≤ maxLen) :
    Calls Try.prog 30 #[.slice A n cap] w fun e' w' => e' = .returned (.bool (jobsB l)) ∧ Below w.heap.size w w' := by
  unfold maxLen at hn
  by_cases h8 : 8 < n
  · have hv : jobsB l = false := jobsB_long (by omega)
    have h8' : (8 : Int) < (n : Int) := by omega
    clear hS hl
    go_enter Try.func30, Try.ntmps30
    go_wp2
    go_ret
    exact ⟨ret_bool hv.symm, Below.refl _ _⟩
  have h8' : (n : Int) ≤ 8 := by omega
  have hL := Lib.hid hl
  have HS := Lib.hid hS
  clear hl hS h8
  go_enter Try.func30, Try.ntmps30
  go_wp2
  go_loopw [3, 4] (fun i _ wr => ∃ k : Nat, k ≤ n ∧ i = .int .i64 k ∧ Below w.heap.size w wr ∧ Hid (∀ j, j < k → jobAtB l j = true)) (fun i _ _ => n - (intOf i).toNat)
  case atStart => exact ⟨0, Nat.zero_le _, rfl, Below.refl _ _, fun j hj => absurd hj (by omega)⟩
  case round =>
    obtain ⟨k, hk, rfl, hbl, hall⟩ := hrel
    by_cases hlt : k < n
    · obtain ⟨b, off, rfl, hb, hcell⟩ := sl_jobs HS.out (by omega)
      have HC := Lib.hid hcell
      obtain ⟨h0, h1, h2, h3, h4⟩ := hcell k hlt
      have g0 := (hcell (k - 1) (by omega)).1
      clear hcell
      rw [← hbl.cell (by exact hb)] at h0 h1 h2 h3 h4 g0
      generalize hp : l.getD k default = p at h0 h1 h2 h3 h4
      generalize hp0 : l.getD (k - 1) default = p0 at g0
      obtain ⟨x0, x1, x2, x3, x4⟩ := p
      obtain ⟨y0, y1, y2, y3, y4⟩ := p0
      simp only at h0 h1 h2 h3 h4 g0
      have HP := Lib.hid (And.intro hp hp0)
      clear hp hp0
      have hbr : b < wr.heap.size := Nat.lt_of_lt_of_le hb hbl.size
      by_cases hj : jobB x0 x1 x2 x3 x4 = true
      · have hC : ∀ w0, Calls Try.prog 63 #[.agg #[.int .i64 x0, .int .i64 x1, .int .i64 x2, .int .i64 x3, .int .i64 x4]] w0 fun e' w' => e' = .returned (.bool true) ∧ Below w0.heap.size w0 w' := fun w0 => by
          have := specJobOk_any x0 x1 x2 x3 x4 w0
          rwa [hj] at this
        have HJ := Lib.hid hj
        clear hj
        by_cases hbad : 0 < k ∧ x0 ≤ y0
        · obtain ⟨hk0, hxy⟩ := hbad
          have hk0' : (0 : Int) < (k : Int) := by omega
          go_wp2
          ((refine wp_region_ext (by kernel_rfl) (by kernel_rfl) ?_); (repeat (any_goals (first | go_big_quiet_step ((go_at_call 63; exact quiet_ext (hC _))) | (refine wpQuiet_step (fun K hK => ?_); go_simp; split <;> (refine hK _ ?_; clear hK K)) | quiet_step ((go_at_call 63; exact quiet_ext (hC _)))))); (all_goals (refine wpQuiet_nil ?_; rintro _ ⟨z, rfl⟩; have hb' := z.h; generalize z.w = w1 at hb' ⊢; clear z; (first | (have hb2 := bstep hb' hb hb.size; clear hb' hcb hfb hz1 hz2 hz3 hz4 hb; have hb := hb2; clear hb2) | (have hb := hb'; clear hb')); obtain ⟨hcb, hfb, hz1, hz2, hz3, hz4⟩ := bcell hb; (try simp only [World.size_alloc, World.size_setCell, World.size_drew, Nat.lt_add_one_iff, Nat.add_assoc, Nat.reduceAdd] at hz1 hz2 hz3 hz4))))
          all_goals go_wp2
          all_goals go_ret
          all_goals exact ⟨ret_bool (jobsB_false (hL.out.symm ▸ hlt) (jobAtB_2 hk0 (by rw [HP.out.1, HP.out.2]; exact hxy))).symm, bstep hb hbl hbl.size⟩
        · have hgood : k = 0 ∨ y0 < x0 := by omega
          have hgz : (0 : Int) < (k : Int) → y0 < x0 := fun h => by omega
          have hbw : b < w.heap.size := hb
          rcases Nat.eq_zero_or_pos k with hk0 | hk0
          · have hk0' : ¬ (0 : Int) < (k : Int) := by omega
            have HK := Lib.hid hk0
            have HG := Lib.hid hgood
            clear hk0 hbad hgood
            go_wp2
            ((refine wp_region_ext (by kernel_rfl) (by kernel_rfl) ?_); (repeat (any_goals (first | go_big_quiet_step ((go_at_call 63; exact quiet_ext (hC _))) | (refine wpQuiet_step (fun K hK => ?_); go_simp; split <;> (refine hK _ ?_; clear hK K)) | quiet_step ((go_at_call 63; exact quiet_ext (hC _)))))); (all_goals (refine wpQuiet_nil ?_; rintro _ ⟨z, rfl⟩; have hb' := z.h; generalize z.w = w1 at hb' ⊢; clear z; (first | (have hb2 := bstep hb' hb hb.size; clear hb' hcb hfb hz1 hz2 hz3 hz4 hb; have hb := hb2; clear hb2) | (have hb := hb'; clear hb')); obtain ⟨hcb, hfb, hz1, hz2, hz3, hz4⟩ := bcell hb; (try simp only [World.size_alloc, World.size_setCell, World.size_drew, Nat.lt_add_one_iff, Nat.add_assoc, Nat.reduceAdd] at hz1 hz2 hz3 hz4))))
            all_goals go_wp2
            have hb1 : Below w.heap.size w w1 := bstep hb hbl hbl.size
            clear h0 h1 h2 h3 h4 g0 hbr
            go_loopw [4] (fun i wq => ∃ m : Nat, m ≤ k ∧ i = .int .i64 m ∧ Below w.heap.size w wq ∧ Hid (∀ j, j < m → x4 ≤ 0 ∨ (l.getD j default).f ≠ x4)) (fun i _ => k - (intOf i).toNat)
            case atStart => exact ⟨0, Nat.zero_le _, rfl, hb1, Lib.hid (fun j hj => absurd hj (by omega))⟩
            case round =>
              obtain ⟨m, hm, rfl, hbq, hmm⟩ := hrel
              by_cases hmk : m < k
              · have e4 : wr.cell? ⟨b, off + k * 5 + 4, none⟩ = some (.int .i64 x4) := by rw [hbq.cell (by exact hbw), (HC.out k hlt).2.2.2.2, HP.out.1]
                have em : wr.cell? ⟨b, off + m * 5 + 4, none⟩ = some (.int .i64 (l.getD m default).f) := by rw [hbq.cell (by exact hbw), (HC.out m (by omega)).2.2.2.2]
                generalize hfm : (l.getD m default).f = fm at em
                have HF := Lib.hid hfm
                clear hfm
                have hbr : b < wr.heap.size := Nat.lt_of_lt_of_le hbw hbq.size
                have hmn : m < n := by omega
                by_cases hx4 : 0 < x4
                · by_cases hfx : fm = x4
                  · have hfx' : (fm == x4) = true := by simpa using hfx
                    go_wp2
                    ((refine wp_region_ext (by kernel_rfl) (by kernel_rfl) ?_); (repeat (any_goals (first | go_big_quiet_step (fail) | (refine wpQuiet_step (fun K hK => ?_); go_simp; split <;> (refine hK _ ?_; clear hK K)) | quiet_step (fail)))); (all_goals (refine wpQuiet_nil ?_; rintro _ ⟨z, rfl⟩; have hb' := z.h; generalize z.w = w1 at hb' ⊢; clear z; (first | (have hb2 := bstep hb' hb hb.size; clear hb' hcb hfb hz1 hz2 hz3 hz4 hb; have hb := hb2; clear hb2) | (have hb := hb'; clear hb')); obtain ⟨hcb, hfb, hz1, hz2, hz3, hz4⟩ := bcell hb; (try simp only [World.size_alloc, World.size_setCell, World.size_drew, Nat.lt_add_one_iff, Nat.add_assoc, Nat.reduceAdd] at hz1 hz2 hz3 hz4))))
                    all_goals go_wp2
                    all_goals go_ret
                    all_goals exact ⟨ret_bool (jobsB_false (hL.out.symm ▸ hlt) (jobAtB_3 (by rw [HP.out.1]; exact hx4) (by rw [HP.out.1]; exact firedBefore_true hmk (by rw [HF.out]; exact hfx)))).symm, bstep hb hbq hbq.size⟩
                  · have hfx' : (fm == x4) = false := by simpa using hfx
                    go_wp2
                    ((refine wp_region_ext (by kernel_rfl) (by kernel_rfl) ?_); (repeat (any_goals (first | go_big_quiet_step (fail) | (refine wpQuiet_step (fun K hK => ?_); go_simp; split <;> (refine hK _ ?_; clear hK K)) | quiet_step (fail)))); (all_goals (refine wpQuiet_nil ?_; rintro _ ⟨z, rfl⟩; have hb' := z.h; generalize z.w = w1 at hb' ⊢; clear z; (first | (have hb2 := bstep hb' hb hb.size; clear hb' hcb hfb hz1 hz2 hz3 hz4 hb; have hb := hb2; clear hb2) | (have hb := hb'; clear hb')); obtain ⟨hcb, hfb, hz1, hz2, hz3, hz4⟩ := bcell hb; (try simp only [World.size_alloc, World.size_setCell, World.size_drew, Nat.lt_add_one_iff, Nat.add_assoc, Nat.reduceAdd] at hz1 hz2 hz3 hz4))))
                    all_goals go_wp2
                    all_goals exact ⟨⟨m + 1, by omega, by go_num, bstep hb hbq hbq.size, Lib.hid (fun j hj => by
                      rcases Nat.lt_or_ge j m with h1 | h1
                      · exact hmm.out j h1
                      · obtain rfl : j = m := by omega
                        exact .inr (by rw [HF.out]; exact hfx))⟩, by simp [intOf]; omega⟩
                · have hx4' : x4 ≤ 0 := by omega
                  clear hx4
                  go_wp2
                  ((refine wp_region_ext (by kernel_rfl) (by kernel_rfl) ?_); (repeat (any_goals (first | go_big_quiet_step (fail) | (refine wpQuiet_step (fun K hK => ?_); go_simp; split <;> (refine hK _ ?_; clear hK K)) | quiet_step (fail)))); (all_goals (refine wpQuiet_nil ?_; rintro _ ⟨z, rfl⟩; have hb' := z.h; generalize z.w = w1 at hb' ⊢; clear z; (first | (have hb2 := bstep hb' hb hb.size; clear hb' hcb hfb hz1 hz2 hz3 hz4 hb; have hb := hb2; clear hb2) | (have hb := hb'; clear hb')); obtain ⟨hcb, hfb, hz1, hz2, hz3, hz4⟩ := bcell hb; (try simp only [World.size_alloc, World.size_setCell, World.size_drew, Nat.lt_add_one_iff, Nat.add_assoc, Nat.reduceAdd] at hz1 hz2 hz3 hz4))))
                  all_goals go_wp2
                  all_goals exact ⟨⟨m + 1, by omega, by go_num, bstep hb hbq hbq.size, Lib.hid (fun j hj => .inl hx4')⟩, by simp [intOf]; omega⟩
              · have hmk' : m = k := by omega
                subst hmk'
                go_wp2
                refine ⟨⟨m + 1, by omega, by go_num, hbq, upto_succ hall.out (jobAtB_4 (by rw [HP.out.1]; exact HJ.out) (by rw [HP.out.1, HP.out.2]; exact HG.out) ?_)⟩, by simp [intOf]; omega⟩
                rw [HP.out.1]
                by_cases hx4 : x4 ≤ 0
                · exact .inl hx4
                · exact .inr (firedBefore_false fun j hj => (hmm.out j hj).resolve_left hx4)
          · have hk0' : (0 : Int) < (k : Int) := by omega
            have hxy : y0 < x0 := by omega
            have hd : decide (x0 ≤ y0) = false := decide_eq_false (by omega)
            have HG := Lib.hid hgood
            clear hbad hgood
            go_wp2
            ((refine wp_region_ext (by kernel_rfl) (by kernel_rfl) ?_); (repeat (any_goals (first | go_big_quiet_step ((go_at_call 63; exact quiet_ext (hC _))) | (refine wpQuiet_step (fun K hK => ?_); go_simp; split <;> (refine hK _ ?_; clear hK K)) | quiet_step ((go_at_call 63; exact quiet_ext (hC _)))))); (all_goals (refine wpQuiet_nil ?_; rintro _ ⟨z, rfl⟩; have hb' := z.h; generalize z.w = w1 at hb' ⊢; clear z; (first | (have hb2 := bstep hb' hb hb.size; clear hb' hcb hfb hz1 hz2 hz3 hz4 hb; have hb := hb2; clear hb2) | (have hb := hb'; clear hb')); obtain ⟨hcb, hfb, hz1, hz2, hz3, hz4⟩ := bcell hb; (try simp only [World.size_alloc, World.size_setCell, World.size_drew, Nat.lt_add_one_iff, Nat.add_assoc, Nat.reduceAdd] at hz1 hz2 hz3 hz4))))
            all_goals go_wp2
            have hb1 : Below w.heap.size w w1 := bstep hb hbl hbl.size
            clear h0 h1 h2 h3 h4 g0 hbr
            go_loopw [4] (fun i wq => ∃ m : Nat, m ≤ k ∧ i = .int .i64 m ∧ Below w.heap.size w wq ∧ Hid (∀ j, j < m → x4 ≤ 0 ∨ (l.getD j default).f ≠ x4)) (fun i _ => k - (intOf i).toNat)
            case atStart => exact ⟨0, Nat.zero_le _, rfl, hb1, Lib.hid (fun j hj => absurd hj (by omega))⟩
            case round =>
              obtain ⟨m, hm, rfl, hbq, hmm⟩ := hrel
              by_cases hmk : m < k
              · have e4 : wr.cell? ⟨b, off + k * 5 + 4, none⟩ = some (.int .i64 x4) := by rw [hbq.cell (by exact hbw), (HC.out k hlt).2.2.2.2, HP.out.1]
                have em : wr.cell? ⟨b, off + m * 5 + 4, none⟩ = some (.int .i64 (l.getD m default).f) := by rw [hbq.cell (by exact hbw), (HC.out m (by omega)).2.2.2.2]
                generalize hfm : (l.getD m default).f = fm at em
                have HF := Lib.hid hfm
                clear hfm
                have hbr : b < wr.heap.size := Nat.lt_of_lt_of_le hbw hbq.size
                have hmn : m < n := by omega
                by_cases hx4 : 0 < x4
                · by_cases hfx : fm = x4
                  · have hfx' : (fm == x4) = true := by simpa using hfx
                    go_wp2
                    ((refine wp_region_ext (by kernel_rfl) (by kernel_rfl) ?_); (repeat (any_goals (first | go_big_quiet_step (fail) | (refine wpQuiet_step (fun K hK => ?_); go_simp; split <;> (refine hK _ ?_; clear hK K)) | quiet_step (fail)))); (all_goals (refine wpQuiet_nil ?_; rintro _ ⟨z, rfl⟩; have hb' := z.h; generalize z.w = w1 at hb' ⊢; clear z; (first | (have hb2 := bstep hb' hb hb.size; clear hb' hcb hfb hz1 hz2 hz3 hz4 hb; have hb := hb2; clear hb2) | (have hb := hb'; clear hb')); obtain ⟨hcb, hfb, hz1, hz2, hz3, hz4⟩ := bcell hb; (try simp only [World.size_alloc, World.size_setCell, World.size_drew, Nat.lt_add_one_iff, Nat.add_assoc, Nat.reduceAdd] at hz1 hz2 hz3 hz4))))
                    all_goals go_wp2
                    all_goals go_ret
                    all_goals exact ⟨ret_bool (jobsB_false (hL.out.symm ▸ hlt) (jobAtB_3 (by rw [HP.out.1]; exact hx4) (by rw [HP.out.1]; exact firedBefore_true hmk (by rw [HF.out]; exact hfx)))).symm, bstep hb hbq hbq.size⟩
                  · have hfx' : (fm == x4) = false := by simpa using hfx
                    go_wp2
                    ((refine wp_region_ext (by kernel_rfl) (by kernel_rfl) ?_); (repeat (any_goals (first | go_big_quiet_step (fail) | (refine wpQuiet_step (fun K hK => ?_); go_simp; split <;> (refine hK _ ?_; clear hK K)) | quiet_step (fail)))); (all_goals (refine wpQuiet_nil ?_; rintro _ ⟨z, rfl⟩; have hb' := z.h; generalize z.w = w1 at hb' ⊢; clear z; (first | (have hb2 := bstep hb' hb hb.size; clear hb' hcb hfb hz1 hz2 hz3 hz4 hb; have hb := hb2; clear hb2) | (have hb := hb'; clear hb')); obtain ⟨hcb, hfb, hz1, hz2, hz3, hz4⟩ := bcell hb; (try simp only [World.size_alloc, World.size_setCell, World.size_drew, Nat.lt_add_one_iff, Nat.add_assoc, Nat.reduceAdd] at hz1 hz2 hz3 hz4))))
                    all_goals go_wp2
                    all_goals exact ⟨⟨m + 1, by omega, by go_num, bstep hb hbq hbq.size, Lib.hid (fun j hj => by
                      rcases Nat.lt_or_ge j m with h1 | h1
                      · exact hmm.out j h1
                      · obtain rfl : j = m := by omega
                        exact .inr (by rw [HF.out]; exact hfx))⟩, by simp [intOf]; omega⟩
                · have hx4' : x4 ≤ 0 := by omega
                  clear hx4
                  go_wp2
                  ((refine wp_region_ext (by kernel_rfl) (by kernel_rfl) ?_); (repeat (any_goals (first | go_big_quiet_step (fail) | (refine wpQuiet_step (fun K hK => ?_); go_simp; split <;> (refine hK _ ?_; clear hK K)) | quiet_step (fail)))); (all_goals (refine wpQuiet_nil ?_; rintro _ ⟨z, rfl⟩; have hb' := z.h; generalize z.w = w1 at hb' ⊢; clear z; (first | (have hb2 := bstep hb' hb hb.size; clear hb' hcb hfb hz1 hz2 hz3 hz4 hb; have hb := hb2; clear hb2) | (have hb := hb'; clear hb')); obtain ⟨hcb, hfb, hz1, hz2, hz3, hz4⟩ := bcell hb; (try simp only [World.size_alloc, World.size_setCell, World.size_drew, Nat.lt_add_one_iff, Nat.add_assoc, Nat.reduceAdd] at hz1 hz2 hz3 hz4))))
                  all_goals go_wp2
                  all_goals exact ⟨⟨m + 1, by omega, by go_num, bstep hb hbq hbq.size, Lib.hid (fun j hj => .inl hx4')⟩, by simp [intOf]; omega⟩
              · have hmk' : m = k := by omega
                subst hmk'
                go_wp2
                refine ⟨⟨m + 1, by omega, by go_num, hbq, upto_succ hall.out (jobAtB_4 (by rw [HP.out.1]; exact HJ.out) (by rw [HP.out.1, HP.out.2]; exact HG.out) ?_)⟩, by simp [intOf]; omega⟩
                rw [HP.out.1]
                by_cases hx4 : x4 ≤ 0
                · exact .inl hx4
                · exact .inr (firedBefore_false fun j hj => (hmm.out j hj).resolve_left hx4)
      · have hj' : jobB x0 x1 x2 x3 x4 = false := by simpa using hj
        have hC : ∀ w0, Calls Try.prog 63 #[.agg #[.int .i64 x0, .int .i64 x1, .int .i64 x2, .int .i64 x3, .int .i64 x4]] w0 fun e' w' => e' = .returned (.bool false) ∧ Below w0.heap.size w0 w' := fun w0 => by
          have := specJobOk_any x0 x1 x2 x3 x4 w0
          rwa [hj'] at this
        have HJ := Lib.hid hj'
        clear hj hj'
        go_wp2
        ((refine wp_region_ext (by kernel_rfl) (by kernel_rfl) ?_); (repeat (any_goals (first | go_big_quiet_step ((go_at_call 63; exact quiet_ext (hC _))) | (refine wpQuiet_step (fun K hK => ?_); go_simp; split <;> (refine hK _ ?_; clear hK K)) | quiet_step ((go_at_call 63; exact quiet_ext (hC _)))))); (all_goals (refine wpQuiet_nil ?_; rintro _ ⟨z, rfl⟩; have hb' := z.h; generalize z.w = w1 at hb' ⊢; clear z; (first | (have hb2 := bstep hb' hb hb.size; clear hb' hcb hfb hz1 hz2 hz3 hz4 hb; have hb := hb2; clear hb2) | (have hb := hb'; clear hb')); obtain ⟨hcb, hfb, hz1, hz2, hz3, hz4⟩ := bcell hb; (try simp only [World.size_alloc, World.size_setCell, World.size_drew, Nat.lt_add_one_iff, Nat.add_assoc, Nat.reduceAdd] at hz1 hz2 hz3 hz4))))
        all_goals go_wp2
        all_goals go_ret
        all_goals exact ⟨ret_bool (jobsB_false (hL.out.symm ▸ hlt) (jobAtB_1 (by rw [HP.out.1]; exact HJ.out))).symm, bstep hb hbl hbl.size⟩
    · have hkn : k = n := by omega
      subst hkn
      go_wp2
      go_ret
      exact ⟨ret_bool (jobsB_true (by have := hL.out; omega) (hL.out.symm ▸ hall.out)).symm, hbl⟩
end Go.Proofs.Ytokklkmibjpjnaa
namespace Go.Proofs.Ytokklkmibjpjnaa
set_option linter.unusedSimpArgs false
set_option linter.unusedVariables false
attribute [local go_sem] n_lt2 n_lt3 n_lt4 n_le2 n_le3
open Go.RowKit Go.Maps Go.WideShapes

theorem ownsMap_below {P : Program} {k : TypeId} {R : Value → Option (DataW Unit × List MemPlace)} {w w' : World} {b n : Nat} {D : DataW Unit} (h : w.ownsMap P k R b n D) (hb : Below w.heap.size w w') : w'.ownsMap P k R b n D := by
  have hlt := h.lt
  obtain ⟨es, clock, hbk, F, hs, hD⟩ := h
  exact ⟨es, clock, (hb.block b hlt).trans hbk, F, hs, hD⟩
theorem plainElem_bool_inv {P : Program} {e : TypeId} (he : P.underlying e = some .bool) {v : Value} {z : DataW Unit × List MemPlace} (h : plainElem P e v = some z) : ∃ u, v = .bool u ∧ z = (.lit (.bool u), []) := by
  unfold plainElem at h
  rw [he] at h
  cases v <;> simp at h
  exact ⟨_, rfl, h.symm⟩

/-- Block b is a map from int64 to bool; what it holds at x is 'u x'. -/
def Marked (P : Program) (K E : TypeId) (w : World) (b n : Nat) (u : Int → Bool) : Prop :=
  ∃ D : DataW Unit, w.ownsMap P K (plainElem P E) b n D ∧ ∀ x, D.atKey (.int .i64 x) (.lit (.bool false)) = .lit (.bool (u x))
theorem Marked.made (w : World) (P : Program) (K E : TypeId) : Marked P K E (w.alloc (.map #[] 0)) w.heap.size 0 (fun _ => false) :=
  ⟨_, World.ownsMap_made w P K _, fun _ => rfl⟩
theorem Marked.lt {P : Program} {K E : TypeId} {w : World} {b n : Nat} {u : Int → Bool} (h : Marked P K E w b n u) : b < w.heap.size := by
  obtain ⟨D, hD, _⟩ := h
  exact hD.lt
theorem Marked.below {P : Program} {K E : TypeId} {w w' : World} {b n : Nat} {u : Int → Bool} (h : Marked P K E w b n u) (hb : Below w.heap.size w w') : Marked P K E w' b n u := by
  obtain ⟨D, hD, ha⟩ := h
  exact ⟨D, ownsMap_below hD hb, ha⟩
theorem wf_small {x : Int} (hx : 0 ≤ x ∧ x ≤ 2000) : (Lit.int .i64 x).wf = true := by
  simp only [Lit.wf, Bool.and_eq_true, decide_eq_true_eq]
  exact ⟨Int.le_trans (show IntKind.min .i64 ≤ 0 by decide) hx.1, Int.le_trans hx.2 (show (2000 : Int) ≤ IntKind.max .i64 by decide)⟩
theorem Marked.look {P : Program} {K E t : TypeId} {w : World} {b n : Nat} {u : Int → Bool} (h : Marked P K E w b n u) (hK : P.underlying K = some (.int .i64)) (hE : P.underlying E = some .bool) (ht : P.underlying t = some (.map K E))
    (hz : (zeroValue E).run P w = .ok (.bool false) w) {x : Int} (hx : 0 ≤ x ∧ x ≤ 2000) : (Instr.lookup t (.map (some b)) (.int .i64 x) false).run P w = .ok (.bool (u x)) w := by
  obtain ⟨D, hD, ha⟩ := h
  obtain ⟨v, ps, hrun, hv⟩ := hD.lookup (int_keyed hK) ht hz (plainElem_bool hE false) (keyOf_int_mk hK (wf_small hx))
  obtain ⟨c, rfl, hc⟩ := plainElem_bool_inv hE hv
  rw [ha x] at hc
  simp only [Prod.mk.injEq, DataW.lit.injEq, Lit.bool.injEq] at hc
  rw [hrun, hc.1]
theorem wpList_mark {P : Program} {w : World} {ops : Array Oper} {rest : List Oper} {o : Oper} {a : Act} {Q : Exit → Act → World → Prop} (hg : o.guard = none) (m x v : Operand) (t : TypeId) (hop : o.op = Op.mapUpdate t m x v)
    (K E : TypeId) (hK : P.underlying K = some (.int .i64)) (hE : P.underlying E = some .bool) (ht : P.underlying t = some (.map K E)) (b n : Nat) (u : Int → Bool)
    (hm : a.eval m = .map (some b)) (hown : Marked P K E w b n u) (hn : n < maxLen) (y : Int) (hy : 0 ≤ y ∧ y ≤ 2000) (hx : a.eval x = .int .i64 y) (hv : a.eval v = .bool true)
    (h : ∀ w', Marked P K E w' b (n + 1) (fun z => u z || decide (y = z)) → w.grownBy w' (some b) → wpList P ops Q rest (a.put o.dst undef) w') :
    wpList P ops Q (o :: rest) a w := by
  obtain ⟨D, hD, ha⟩ := hown
  refine wpList_mapUpdate_own _ hg m x v t hop K E (int_keyed hK) ht (plainElem P E) b n D hm hD hn (.int .i64 y) (.bool true) (.int .i64 y) hx hv (keyOf_int_mk hK (wf_small hy)) (.lit (.bool true)) [] (plainElem_bool hE true) ?_
  intro w' hD' hg'
  refine h w' ⟨_, hD', fun z => ?_⟩ hg'
  by_cases hz : y = z
  · subst hz
    rw [atKey_put_same hD.isMap (by trivial)]
    simp
  · rw [atKey_put_other (by intro h'; injection h' with _ h2; exact hz h2.symm), ha z]
    simp [hz]
theorem wp_named {P : Program} {c : Code} {Q : Exit → Act → World → Prop} {a : Act} {w : World} (h : ∀ w', w' = w → Code.wp P c Q a w') : Code.wp P c Q a w := h w rfl
end Go.Proofs.Ytokklkmibjpjnaa
namespace Go.Proofs.Ytokklkmibjpjnaa
set_option linter.unusedSimpArgs false
set_option linter.unusedVariables false
attribute [local go_sem] n_lt2 n_lt3 n_lt4 n_le2 n_le3
open Go.RowKit
theorem firedBefore_succ (l : List Jb) (k : Nat) (x : Int) : firedBefore l (k + 1) x = (firedBefore l k x || decide ((l.getD k default).f = x)) := by
  unfold firedBefore
  rw [List.range_succ, List.any_append]
  simp
attribute [local go_sem] Ext.cell Ext.frozen

theorem closed_any (a b c d e : Int) (w : World) :
    Calls Try.prog 82 #[.agg #[.int .i64 a, .int .i64 b, .int .i64 c, .int .i64 d, .int .i64 e]] w fun e' w' => e' = .returned (.bool (!decide (e = 0))) ∧ Below w.heap.size w w' := by
  go_enter Try.func82, Try.ntmps82
  go_wp2
  go_ret
  exact ⟨ret_bool (by (first | rfl | (simp [*]; done) | (subst_vars; simp [*]; done) | (simp_all; done))), by (repeat' (first | (with_reducible exact Below.refl _ _) | (with_reducible assumption) | (with_reducible refine Below.alloc ?_ ?_ _) | (with_reducible refine Below.drew ?_) | (with_reducible refine Below.setCell ?_ ?_ _) | (with_reducible refine bstep (by assumption) ?_ ?_) | (with_reducible exact Nat.le_refl _) | omega | (simp [*]; done) | (simp [*]; omega)))⟩
theorem zeroB (w : World) : (zeroValue 4).run Try.prog w = .ok (.bool false) w := by kernel_rfl
set_option maxRecDepth 100000 in
set_option maxHeartbeats 4000000 in
theorem jobsOk_any (A : Option Addr) (n cap : Nat) (l : List Jb) (w : World) (hS : Sl w 5 A n (JB l)) (hl : l.length = n) (hn : n ≤ maxLen) :
    Calls Try.prog 60 #[.slice A n cap] w fun e' w' => e' = .returned (.bool (jobsB l)) ∧ Below w.heap.size w w' := by
  unfold maxLen at hn
  by_cases h8 : 8 < n
  · have hv : jobsB l = false := jobsB_long (by omega)
    have h8' : (8 : Int) < (n : Int) := by omega
    clear hS hl
    go_enter Try.func60, Try.ntmps60
    go_wp2
    go_ret
    exact ⟨ret_bool hv.symm, Below.refl _ _⟩
  have h8' : (n : Int) ≤ 8 := by omega
  have hL := Lib.hid hl
  have HS := Lib.hid hS
  clear hl hS h8
  have hmm := @run_makeMap Try.prog
  go_enter Try.func60, Try.ntmps60
  go_wp2
  go_loopw [12] (fun i wr => ∃ k : Nat, k ≤ n ∧ i = .int .i64 k ∧ Below w.heap.size w wr ∧ Hid (∀ j, j < k → jobAtB l j = true) ∧ Hid (Marked Try.prog 2 4 wr w.heap.size k (firedBefore l k))) (fun i _ => n - (intOf i).toNat)
  case atStart => exact ⟨0, Nat.zero_le _, rfl, (Below.refl _ _).alloc (Nat.le_refl _) _, Lib.hid (fun j hj => absurd hj (by omega)), Lib.hid (Marked.made w _ _ _)⟩
  case round =>
    obtain ⟨k, hk, rfl, hbl, hall, HU⟩ := hrel
    by_cases hlt : k < n
    · obtain ⟨b, off, rfl, hb, hcell⟩ := sl_jobs HS.out (by omega)
      obtain ⟨h0, h1, h2, h3, h4⟩ := hcell k hlt
      have g0 := (hcell (k - 1) (by omega)).1
      clear hcell
      rw [← hbl.cell (by exact hb)] at h0 h1 h2 h3 h4 g0
      generalize hp : l.getD k default = p at h0 h1 h2 h3 h4
      generalize hp0 : l.getD (k - 1) default = p0 at g0
      obtain ⟨x0, x1, x2, x3, x4⟩ := p
      obtain ⟨y0, y1, y2, y3, y4⟩ := p0
      simp only at h0 h1 h2 h3 h4 g0
      have HP := Lib.hid (And.intro hp hp0)
      clear hp hp0
      have hbr : b < wr.heap.size := Nat.lt_of_lt_of_le hb hbl.size
      have hB0 := Lib.hid (Nat.le_trans (Nat.le_succ _) (show w.heap.size + 1 ≤ wr.heap.size from HU.out.lt))
      by_cases hj : jobB x0 x1 x2 x3 x4 = true
      · have hC : ∀ w0, Calls Try.prog 81 #[.agg #[.int .i64 x0, .int .i64 x1, .int .i64 x2, .int .i64 x3, .int .i64 x4]] w0 fun e' w' => e' = .returned (.bool true) ∧ Below w0.heap.size w0 w' := fun w0 => by
          have := jobOk_any x0 x1 x2 x3 x4 w0
          rwa [hj] at this
        have HJ := Lib.hid hj
        clear hj
        by_cases hbad : 0 < k ∧ x0 ≤ y0
        · obtain ⟨hk0, hxy⟩ := hbad
          have hk0' : (0 : Int) < (k : Int) := by omega
          go_wp2
          ((refine wp_region_ext (by kernel_rfl) (by kernel_rfl) ?_); (repeat (any_goals (first | go_big_quiet_step ((go_at_call 81; exact quiet_ext (hC _))) | (refine wpQuiet_step (fun K hK => ?_); go_simp; split <;> (refine hK _ ?_; clear hK K)) | quiet_step ((go_at_call 81; exact quiet_ext (hC _)))))); (all_goals (refine wpQuiet_nil ?_; rintro _ ⟨z, rfl⟩; have hb' := z.h; generalize z.w = w1 at hb' ⊢; clear z; (first | (have hb2 := bstep hb' hb hb.size; clear hb' hcb hfb hz1 hz2 hz3 hz4 hb; have hb := hb2; clear hb2) | (have hb := hb'; clear hb')); obtain ⟨hcb, hfb, hz1, hz2, hz3, hz4⟩ := bcell hb; (try simp only [World.size_alloc, World.size_setCell, World.size_drew, Nat.lt_add_one_iff, Nat.add_assoc, Nat.reduceAdd] at hz1 hz2 hz3 hz4))))
          all_goals go_wp2
          all_goals go_ret
          all_goals exact ⟨ret_bool (jobsB_false (hL.out.symm ▸ hlt) (jobAtB_2 hk0 (by rw [HP.out.1, HP.out.2]; exact hxy))).symm, bstep hb (hbl.alloc hbl.size _) (by have := hbl.size; simp; omega)⟩
        · have HG := Lib.hid (show k = 0 ∨ y0 < x0 by omega)
          rcases Nat.eq_zero_or_pos k with hk0 | hk0
          · have hk0' : ¬ (0 : Int) < (k : Int) := by omega
            clear hk0 hbad
            by_cases hx : x4 = 0
            · have hx4 : (!decide (x4 = 0)) = false := by simpa using hx
              have hD : ∀ w0, Calls Try.prog 82 #[.agg #[.int .i64 x0, .int .i64 x1, .int .i64 x2, .int .i64 x3, .int .i64 x4]] w0 fun e' w' => e' = .returned (.bool false) ∧ Below w0.heap.size w0 w' := fun w0 => by
                have := closed_any x0 x1 x2 x3 x4 w0
                rwa [hx4] at this
              have hxl : x4 ≤ 0 := by omega
              clear hx
              go_wp2
              ((refine wp_region_ext (by kernel_rfl) (by kernel_rfl) ?_); (repeat (any_goals (first | go_big_quiet_step (first | (go_at_call 81; exact quiet_ext (hC _)) | (go_at_call 82; exact quiet_ext (hD _))) | (refine wpQuiet_step (fun K hK => ?_); go_simp; split <;> (refine hK _ ?_; clear hK K)) | quiet_step (first | (go_at_call 81; exact quiet_ext (hC _)) | (go_at_call 82; exact quiet_ext (hD _)))))); (all_goals (refine wpQuiet_nil ?_; rintro _ ⟨z, rfl⟩; have hb' := z.h; generalize z.w = w1 at hb' ⊢; clear z; (first | (have hb2 := bstep hb' hb hb.size; clear hb' hcb hfb hz1 hz2 hz3 hz4 hb; have hb := hb2; clear hb2) | (have hb := hb'; clear hb')); obtain ⟨hcb, hfb, hz1, hz2, hz3, hz4⟩ := bcell hb; (try simp only [World.size_alloc, World.size_setCell, World.size_drew, Nat.lt_add_one_iff, Nat.add_assoc, Nat.reduceAdd] at hz1 hz2 hz3 hz4))))
              all_goals try (exfalso; omega)
              have hfr : Below w.heap.size w w1 := bstep hb (hbl.alloc hbl.size _) (by have := hbl.size; simp; omega)
              have HM : Marked Try.prog 2 4 w1 w.heap.size k (firedBefore l k) := HU.out.below (((Below.refl _ wr).alloc (Nat.le_refl _) _).trans (hb.mono (by simp)))
              have hsz : w.heap.size ≤ w1.heap.size := hfr.size
              have hy := jobB_fired HJ.out
              go_wp2_with (at_mapUpdate; refine wpList_mark rfl _ _ _ 114 rfl 2 4 Try.underlying2 Try.underlying4 Try.underlying114 w.heap.size k (firedBefore l k) rfl HM (by unfold maxLen; omega) x4 hy rfl rfl ?_; intro w5 HM5 hg5)
              refine ⟨⟨k + 1, by omega, by go_num, hfr.grown hg5 hsz (fun k hk => by injection hk with hk; omega), Lib.hid (upto_succ hall.out (jobAtB_4 (by rw [HP.out.1]; exact HJ.out) (by rw [HP.out.1, HP.out.2]; exact HG.out) (by rw [HP.out.1]; exact .inl hxl))), Lib.hid (by
                have e : firedBefore l (k + 1) = fun z => firedBefore l k z || decide (x4 = z) := funext fun z => by rw [firedBefore_succ, HP.out.1]
                rw [e]
                exact HM5)⟩, by simp [intOf]; omega⟩
            · have hx4 : (!decide (x4 = 0)) = true := by simpa using hx
              have hD : ∀ w0, Calls Try.prog 82 #[.agg #[.int .i64 x0, .int .i64 x1, .int .i64 x2, .int .i64 x3, .int .i64 x4]] w0 fun e' w' => e' = .returned (.bool true) ∧ Below w0.heap.size w0 w' := fun w0 => by
                have := closed_any x0 x1 x2 x3 x4 w0
                rwa [hx4] at this
              clear hx4
              have HX := Lib.hid hx
              clear hx
              by_cases hu : firedBefore l k x4 = true
              · have hlk : ∀ (o : Obj) (z : Ext (wr.alloc o)), (Instr.lookup 114 (.map (some w.heap.size)) (.int .i64 x4) false).run Try.prog z.w = .ok (.bool true) z.w := fun o z => by
                  have := (HU.out.below (((Below.refl _ wr).alloc (Nat.le_refl _) o).trans (z.h.mono (by simp)))).look (t := 114) Try.underlying2 Try.underlying4 Try.underlying114 (zeroB _) (jobB_fired HJ.out)
                  rwa [hu] at this
                have HUU := Lib.hid hu
                clear hu
                go_wp2
                ((refine wp_region_ext (by kernel_rfl) (by kernel_rfl) ?_); (repeat (any_goals (first | go_big_quiet_step (first | (go_at_call 81; exact quiet_ext (hC _)) | (go_at_call 82; exact quiet_ext (hD _))) | (refine wpQuiet_step (fun K hK => ?_); go_simp; split <;> (refine hK _ ?_; clear hK K)) | quiet_step (first | (go_at_call 81; exact quiet_ext (hC _)) | (go_at_call 82; exact quiet_ext (hD _)))))); (all_goals (refine wpQuiet_nil ?_; rintro _ ⟨z, rfl⟩; have hb' := z.h; generalize z.w = w1 at hb' ⊢; clear z; (first | (have hb2 := bstep hb' hb hb.size; clear hb' hcb hfb hz1 hz2 hz3 hz4 hb; have hb := hb2; clear hb2) | (have hb := hb'; clear hb')); obtain ⟨hcb, hfb, hz1, hz2, hz3, hz4⟩ := bcell hb; (try simp only [World.size_alloc, World.size_setCell, World.size_drew, Nat.lt_add_one_iff, Nat.add_assoc, Nat.reduceAdd] at hz1 hz2 hz3 hz4))))
                all_goals go_wp2
                all_goals go_ret
                all_goals exact ⟨ret_bool (jobsB_false (hL.out.symm ▸ hlt) (jobAtB_3 (by rw [HP.out.1]; have := HX.out; have h9 := jobB_fired HJ.out; show 0 < x4; omega) (by rw [HP.out.1]; exact HUU.out))).symm, bstep hb (hbl.alloc hbl.size _) (by have := hbl.size; simp; omega)⟩
              · have hu : firedBefore l k x4 = false := by simpa using hu
                have hlk : ∀ (o : Obj) (z : Ext (wr.alloc o)), (Instr.lookup 114 (.map (some w.heap.size)) (.int .i64 x4) false).run Try.prog z.w = .ok (.bool false) z.w := fun o z => by
                  have := (HU.out.below (((Below.refl _ wr).alloc (Nat.le_refl _) o).trans (z.h.mono (by simp)))).look (t := 114) Try.underlying2 Try.underlying4 Try.underlying114 (zeroB _) (jobB_fired HJ.out)
                  rwa [hu] at this
                have HUU := Lib.hid hu
                clear hu
                go_wp2
                ((refine wp_region_ext (by kernel_rfl) (by kernel_rfl) ?_); (repeat (any_goals (first | go_big_quiet_step (first | (go_at_call 81; exact quiet_ext (hC _)) | (go_at_call 82; exact quiet_ext (hD _))) | (refine wpQuiet_step (fun K hK => ?_); go_simp; split <;> (refine hK _ ?_; clear hK K)) | quiet_step (first | (go_at_call 81; exact quiet_ext (hC _)) | (go_at_call 82; exact quiet_ext (hD _)))))); (all_goals (refine wpQuiet_nil ?_; rintro _ ⟨z, rfl⟩; have hb' := z.h; generalize z.w = w1 at hb' ⊢; clear z; (first | (have hb2 := bstep hb' hb hb.size; clear hb' hcb hfb hz1 hz2 hz3 hz4 hb; have hb := hb2; clear hb2) | (have hb := hb'; clear hb')); obtain ⟨hcb, hfb, hz1, hz2, hz3, hz4⟩ := bcell hb; (try simp only [World.size_alloc, World.size_setCell, World.size_drew, Nat.lt_add_one_iff, Nat.add_assoc, Nat.reduceAdd] at hz1 hz2 hz3 hz4))))
                all_goals try (exfalso; omega)
                have hfr : Below w.heap.size w w1 := bstep hb (hbl.alloc hbl.size _) (by have := hbl.size; simp; omega)
                have HM : Marked Try.prog 2 4 w1 w.heap.size k (firedBefore l k) := HU.out.below (((Below.refl _ wr).alloc (Nat.le_refl _) _).trans (hb.mono (by simp)))
                have hsz : w.heap.size ≤ w1.heap.size := hfr.size
                have hy := jobB_fired HJ.out
                go_wp2_with (at_mapUpdate; refine wpList_mark rfl _ _ _ 114 rfl 2 4 Try.underlying2 Try.underlying4 Try.underlying114 w.heap.size k (firedBefore l k) rfl HM (by unfold maxLen; omega) x4 hy rfl rfl ?_; intro w5 HM5 hg5)
                refine ⟨⟨k + 1, by omega, by go_num, hfr.grown hg5 hsz (fun k hk => by injection hk with hk; omega), Lib.hid (upto_succ hall.out (jobAtB_4 (by rw [HP.out.1]; exact HJ.out) (by rw [HP.out.1, HP.out.2]; exact HG.out) (by rw [HP.out.1]; exact .inr HUU.out))), Lib.hid (by
                  have e : firedBefore l (k + 1) = fun z => firedBefore l k z || decide (x4 = z) := funext fun z => by rw [firedBefore_succ, HP.out.1]
                  rw [e]
                  exact HM5)⟩, by simp [intOf]; omega⟩
          · have hk0' : (0 : Int) < (k : Int) := by omega
            have hxy : y0 < x0 := by omega
            have hd : decide (x0 ≤ y0) = false := decide_eq_false (by omega)
            clear hbad
            by_cases hx : x4 = 0
            · have hx4 : (!decide (x4 = 0)) = false := by simpa using hx
              have hD : ∀ w0, Calls Try.prog 82 #[.agg #[.int .i64 x0, .int .i64 x1, .int .i64 x2, .int .i64 x3, .int .i64 x4]] w0 fun e' w' => e' = .returned (.bool false) ∧ Below w0.heap.size w0 w' := fun w0 => by
                have := closed_any x0 x1 x2 x3 x4 w0
                rwa [hx4] at this
              have hxl : x4 ≤ 0 := by omega
              clear hx
              go_wp2
              ((refine wp_region_ext (by kernel_rfl) (by kernel_rfl) ?_); (repeat (any_goals (first | go_big_quiet_step (first | (go_at_call 81; exact quiet_ext (hC _)) | (go_at_call 82; exact quiet_ext (hD _))) | (refine wpQuiet_step (fun K hK => ?_); go_simp; split <;> (refine hK _ ?_; clear hK K)) | quiet_step (first | (go_at_call 81; exact quiet_ext (hC _)) | (go_at_call 82; exact quiet_ext (hD _)))))); (all_goals (refine wpQuiet_nil ?_; rintro _ ⟨z, rfl⟩; have hb' := z.h; generalize z.w = w1 at hb' ⊢; clear z; (first | (have hb2 := bstep hb' hb hb.size; clear hb' hcb hfb hz1 hz2 hz3 hz4 hb; have hb := hb2; clear hb2) | (have hb := hb'; clear hb')); obtain ⟨hcb, hfb, hz1, hz2, hz3, hz4⟩ := bcell hb; (try simp only [World.size_alloc, World.size_setCell, World.size_drew, Nat.lt_add_one_iff, Nat.add_assoc, Nat.reduceAdd] at hz1 hz2 hz3 hz4))))
              all_goals try (exfalso; omega)
              have hfr : Below w.heap.size w w1 := bstep hb (hbl.alloc hbl.size _) (by have := hbl.size; simp; omega)
              have HM : Marked Try.prog 2 4 w1 w.heap.size k (firedBefore l k) := HU.out.below (((Below.refl _ wr).alloc (Nat.le_refl _) _).trans (hb.mono (by simp)))
              have hsz : w.heap.size ≤ w1.heap.size := hfr.size
              have hy := jobB_fired HJ.out
              go_wp2_with (at_mapUpdate; refine wpList_mark rfl _ _ _ 114 rfl 2 4 Try.underlying2 Try.underlying4 Try.underlying114 w.heap.size k (firedBefore l k) rfl HM (by unfold maxLen; omega) x4 hy rfl rfl ?_; intro w5 HM5 hg5)
              refine ⟨⟨k + 1, by omega, by go_num, hfr.grown hg5 hsz (fun k hk => by injection hk with hk; omega), Lib.hid (upto_succ hall.out (jobAtB_4 (by rw [HP.out.1]; exact HJ.out) (by rw [HP.out.1, HP.out.2]; exact HG.out) (by rw [HP.out.1]; exact .inl hxl))), Lib.hid (by
                have e : firedBefore l (k + 1) = fun z => firedBefore l k z || decide (x4 = z) := funext fun z => by rw [firedBefore_succ, HP.out.1]
                rw [e]
                exact HM5)⟩, by simp [intOf]; omega⟩
            · have hx4 : (!decide (x4 = 0)) = true := by simpa using hx
              have hD : ∀ w0, Calls Try.prog 82 #[.agg #[.int .i64 x0, .int .i64 x1, .int .i64 x2, .int .i64 x3, .int .i64 x4]] w0 fun e' w' => e' = .returned (.bool true) ∧ Below w0.heap.size w0 w' := fun w0 => by
                have := closed_any x0 x1 x2 x3 x4 w0
                rwa [hx4] at this
              clear hx4
              have HX := Lib.hid hx
              clear hx
              by_cases hu : firedBefore l k x4 = true
              · have hlk : ∀ (o : Obj) (z : Ext (wr.alloc o)), (Instr.lookup 114 (.map (some w.heap.size)) (.int .i64 x4) false).run Try.prog z.w = .ok (.bool true) z.w := fun o z => by
                  have := (HU.out.below (((Below.refl _ wr).alloc (Nat.le_refl _) o).trans (z.h.mono (by simp)))).look (t := 114) Try.underlying2 Try.underlying4 Try.underlying114 (zeroB _) (jobB_fired HJ.out)
                  rwa [hu] at this
                have HUU := Lib.hid hu
                clear hu
                go_wp2
                ((refine wp_region_ext (by kernel_rfl) (by kernel_rfl) ?_); (repeat (any_goals (first | go_big_quiet_step (first | (go_at_call 81; exact quiet_ext (hC _)) | (go_at_call 82; exact quiet_ext (hD _))) | (refine wpQuiet_step (fun K hK => ?_); go_simp; split <;> (refine hK _ ?_; clear hK K)) | quiet_step (first | (go_at_call 81; exact quiet_ext (hC _)) | (go_at_call 82; exact quiet_ext (hD _)))))); (all_goals (refine wpQuiet_nil ?_; rintro _ ⟨z, rfl⟩; have hb' := z.h; generalize z.w = w1 at hb' ⊢; clear z; (first | (have hb2 := bstep hb' hb hb.size; clear hb' hcb hfb hz1 hz2 hz3 hz4 hb; have hb := hb2; clear hb2) | (have hb := hb'; clear hb')); obtain ⟨hcb, hfb, hz1, hz2, hz3, hz4⟩ := bcell hb; (try simp only [World.size_alloc, World.size_setCell, World.size_drew, Nat.lt_add_one_iff, Nat.add_assoc, Nat.reduceAdd] at hz1 hz2 hz3 hz4))))
                all_goals go_wp2
                all_goals go_ret
                all_goals exact ⟨ret_bool (jobsB_false (hL.out.symm ▸ hlt) (jobAtB_3 (by rw [HP.out.1]; have := HX.out; have h9 := jobB_fired HJ.out; show 0 < x4; omega) (by rw [HP.out.1]; exact HUU.out))).symm, bstep hb (hbl.alloc hbl.size _) (by have := hbl.size; simp; omega)⟩
              · have hu : firedBefore l k x4 = false := by simpa using hu
                have hlk : ∀ (o : Obj) (z : Ext (wr.alloc o)), (Instr.lookup 114 (.map (some w.heap.size)) (.int .i64 x4) false).run Try.prog z.w = .ok (.bool false) z.w := fun o z => by
                  have := (HU.out.below (((Below.refl _ wr).alloc (Nat.le_refl _) o).trans (z.h.mono (by simp)))).look (t := 114) Try.underlying2 Try.underlying4 Try.underlying114 (zeroB _) (jobB_fired HJ.out)
                  rwa [hu] at this
                have HUU := Lib.hid hu
                clear hu
                go_wp2
                ((refine wp_region_ext (by kernel_rfl) (by kernel_rfl) ?_); (repeat (any_goals (first | go_big_quiet_step (first | (go_at_call 81; exact quiet_ext (hC _)) | (go_at_call 82; exact quiet_ext (hD _))) | (refine wpQuiet_step (fun K hK => ?_); go_simp; split <;> (refine hK _ ?_; clear hK K)) | quiet_step (first | (go_at_call 81; exact quiet_ext (hC _)) | (go_at_call 82; exact quiet_ext (hD _)))))); (all_goals (refine wpQuiet_nil ?_; rintro _ ⟨z, rfl⟩; have hb' := z.h; generalize z.w = w1 at hb' ⊢; clear z; (first | (have hb2 := bstep hb' hb hb.size; clear hb' hcb hfb hz1 hz2 hz3 hz4 hb; have hb := hb2; clear hb2) | (have hb := hb'; clear hb')); obtain ⟨hcb, hfb, hz1, hz2, hz3, hz4⟩ := bcell hb; (try simp only [World.size_alloc, World.size_setCell, World.size_drew, Nat.lt_add_one_iff, Nat.add_assoc, Nat.reduceAdd] at hz1 hz2 hz3 hz4))))
                all_goals try (exfalso; omega)
                have hfr : Below w.heap.size w w1 := bstep hb (hbl.alloc hbl.size _) (by have := hbl.size; simp; omega)
                have HM : Marked Try.prog 2 4 w1 w.heap.size k (firedBefore l k) := HU.out.below (((Below.refl _ wr).alloc (Nat.le_refl _) _).trans (hb.mono (by simp)))
                have hsz : w.heap.size ≤ w1.heap.size := hfr.size
                have hy := jobB_fired HJ.out
                go_wp2_with (at_mapUpdate; refine wpList_mark rfl _ _ _ 114 rfl 2 4 Try.underlying2 Try.underlying4 Try.underlying114 w.heap.size k (firedBefore l k) rfl HM (by unfold maxLen; omega) x4 hy rfl rfl ?_; intro w5 HM5 hg5)
                refine ⟨⟨k + 1, by omega, by go_num, hfr.grown hg5 hsz (fun k hk => by injection hk with hk; omega), Lib.hid (upto_succ hall.out (jobAtB_4 (by rw [HP.out.1]; exact HJ.out) (by rw [HP.out.1, HP.out.2]; exact HG.out) (by rw [HP.out.1]; exact .inr HUU.out))), Lib.hid (by
                  have e : firedBefore l (k + 1) = fun z => firedBefore l k z || decide (x4 = z) := funext fun z => by rw [firedBefore_succ, HP.out.1]
                  rw [e]
                  exact HM5)⟩, by simp [intOf]; omega⟩
      · have hj : jobB x0 x1 x2 x3 x4 = false := by simpa using hj
        have hC : ∀ w0, Calls Try.prog 81 #[.agg #[.int .i64 x0, .int .i64 x1, .int .i64 x2, .int .i64 x3, .int .i64 x4]] w0 fun e' w' => e' = .returned (.bool false) ∧ Below w0.heap.size w0 w' := fun w0 => by
          have := jobOk_any x0 x1 x2 x3 x4 w0
          rwa [hj] at this
        have HJ := Lib.hid hj
        clear hj
        go_wp2
        ((refine wp_region_ext (by kernel_rfl) (by kernel_rfl) ?_); (repeat (any_goals (first | go_big_quiet_step ((go_at_call 81; exact quiet_ext (hC _))) | (refine wpQuiet_step (fun K hK => ?_); go_simp; split <;> (refine hK _ ?_; clear hK K)) | quiet_step ((go_at_call 81; exact quiet_ext (hC _)))))); (all_goals (refine wpQuiet_nil ?_; rintro _ ⟨z, rfl⟩; have hb' := z.h; generalize z.w = w1 at hb' ⊢; clear z; (first | (have hb2 := bstep hb' hb hb.size; clear hb' hcb hfb hz1 hz2 hz3 hz4 hb; have hb := hb2; clear hb2) | (have hb := hb'; clear hb')); obtain ⟨hcb, hfb, hz1, hz2, hz3, hz4⟩ := bcell hb; (try simp only [World.size_alloc, World.size_setCell, World.size_drew, Nat.lt_add_one_iff, Nat.add_assoc, Nat.reduceAdd] at hz1 hz2 hz3 hz4))))
        all_goals go_wp2
        all_goals go_ret
        all_goals exact ⟨ret_bool (jobsB_false (hL.out.symm ▸ hlt) (jobAtB_1 (by rw [HP.out.1]; exact HJ.out))).symm, bstep hb (hbl.alloc hbl.size _) (by have := hbl.size; simp; omega)⟩
    · have hkn : k = n := by omega
      subst hkn
      go_wp2
      go_ret
      exact ⟨ret_bool (jobsB_true (by have := hL.out; omega) (hL.out.symm ▸ hall.out)).symm, hbl⟩
end Go.Proofs.Ytokklkmibjpjnaa
namespace Go.Proofs.Ytokklkmibjpjnaa
set_option linter.unusedSimpArgs false
set_option linter.unusedVariables false
attribute [local go_sem] n_lt2 n_lt3 n_lt4 n_le2 n_le3
open Go.RowKit
/-- The place of the first pair with this key, or the list's length. -/
def jobIx (l : List Jb) (key : Int) : Nat := l.findIdx (fun p => decide (p.i = key))
def placeJ (l : List Jb) (key : Int) : Int := if jobIx l key < l.length then (jobIx l key : Int) else -1
def jobAtV (l : List Jb) (key : Int) : Jb × Bool := if jobIx l key < l.length then (l.getD (jobIx l key) default, true) else (default, false)
def jobAtR (l : List Jb) (key : Int) : Jb × Bool := if jobsB l = true then jobAtV l key else (default, false)
theorem jobIx_some {l : List Jb} {key : Int} {k : Nat} (hk : k < l.length) (hj : ∀ j, j < k → (l.getD j default).i ≠ key) (h : (l.getD k default).i = key) : jobIx l key = k := by
  unfold jobIx
  rw [List.findIdx_eq hk]
  refine ⟨?_, fun j hjk => ?_⟩
  · have : l.getD k default = l[k] := by simp [List.getD, hk]
    rw [this] at h
    simpa using h
  · have hj' := hj j hjk
    have : l.getD j default = l[j] := by simp [List.getD, Nat.lt_trans hjk hk]
    rw [this] at hj'
    simpa using hj'
theorem jobIx_none {l : List Jb} {key : Int} (hj : ∀ j, j < l.length → (l.getD j default).i ≠ key) : jobIx l key = l.length := by
  unfold jobIx
  rw [List.findIdx_eq_length]
  intro x hx
  obtain ⟨i, hi, rfl⟩ := List.getElem_of_mem hx
  have hj' := hj i hi
  have : l.getD i default = l[i] := by simp [List.getD, hi]
  rw [this] at hj'
  simpa using hj'
theorem placeJ_some {l : List Jb} {key : Int} {k : Nat} (hk : k < l.length) (hj : ∀ j, j < k → (l.getD j default).i ≠ key) (h : (l.getD k default).i = key) : placeJ l key = k := by
  unfold placeJ
  rw [jobIx_some hk hj h, if_pos hk]
theorem placeJ_none {l : List Jb} {key : Int} (hj : ∀ j, j < l.length → (l.getD j default).i ≠ key) : placeJ l key = -1 := by
  unfold placeJ
  rw [jobIx_none hj, if_neg (Nat.lt_irrefl _)]
theorem jobAtV_some {l : List Jb} {key : Int} {k : Nat} (hk : k < l.length) (hj : ∀ j, j < k → (l.getD j default).i ≠ key) (h : (l.getD k default).i = key) : jobAtV l key = (l.getD k default, true) := by
  unfold jobAtV
  rw [jobIx_some hk hj h, if_pos hk]
theorem jobAtV_none {l : List Jb} {key : Int} (hj : ∀ j, j < l.length → (l.getD j default).i ≠ key) : jobAtV l key = (default, false) := by
  unfold jobAtV
  rw [jobIx_none hj, if_neg (Nat.lt_irrefl _)]
theorem below_uptoJ {l : List Jb} {key : Int} {k : Nat} (h : ∀ j, j < k → (l.getD j default).i ≠ key) (hk : (l.getD k default).i ≠ key) : ∀ j, j < k + 1 → (l.getD j default).i ≠ key := fun j hj => by
  rcases Nat.lt_or_ge j k with h1 | h1
  · exact h j h1
  · obtain rfl : j = k := by omega
    exact hk
attribute [local go_sem] Ext.cell Ext.frozen

end Go.Proofs.Ytokklkmibjpjnaa
namespace Go.Proofs.Ytokklkmibjpjnaa
set_option linter.unusedSimpArgs false
set_option linter.unusedVariables false
attribute [local go_sem] n_lt2 n_lt3 n_lt4 n_le2 n_le3
open Go.RowKit

def ordersRowL (l : List Jb) : List Int := if jobsB l = true then (l.length : Int) :: JB l else []
theorem ordersRowL_len (l : List Jb) : (ordersRowL l).length ≤ 41 := by
  unfold ordersRowL
  split
  · rename_i h
    have := (jobsB_all h).1
    simp [JB_len]; omega
  · simp
theorem JB_append (a b : List Jb) : JB (a ++ b) = JB a ++ JB b := by simp [JB]
theorem cell_five_at (w : World) (x0 x1 x2 x3 x4 : Value) (t : TypeId) (g : Nat) (hg : g = w.heap.size) : ∀ j u, [x0, x1, x2, x3, x4][j]? = some u → (w.alloc (.cells #[x0, x1, x2, x3, x4] t)).cell? ((⟨g, 0, none⟩ : Addr).add j) = some u := by
  subst hg
  intro j u hj
  match j, hj with
  | 0, hj => simp at hj; subst hj; simp [Addr.add]
  | 1, hj => simp at hj; subst hj; simp [Addr.add]
  | 2, hj => simp at hj; subst hj; simp [Addr.add]
  | 3, hj => simp at hj; subst hj; simp [Addr.add]
  | 4, hj => simp at hj; subst hj; simp [Addr.add]
theorem JB_take {l : List Jb} {k : Nat} (h : k < l.length) : JB (l.take (k + 1)) = JB (l.take k) ++ [(l.getD k default).i, (l.getD k default).d, (l.getD k default).k, (l.getD k default).v, (l.getD k default).f] := by
  rw [List.take_add_one, JB_append]
  congr 1
  simp [JB, List.getD, h]
attribute [local go_sem] Ext.cell Ext.frozen

set_option maxRecDepth 100000 in
set_option maxHeartbeats 2000000 in
theorem putJobs_any (A : Option Addr) (n cap p n0 : Nat) (l : List Jb) (zs0 : List Int) (wb w : World) (hS : Sl wb 5 A n (JB l)) (hl : l.length = n) (hn : n ≤ 10) (hn0 : n0 ≤ 1000) (hB : Below wb.heap.size wb w) (hC : Cur w wb.heap.size p 2 53 n0 zs0) :
    Calls Try.prog 26 #[.pointer (some ⟨p, 0, none⟩), .slice A n cap] w fun e w' => e = .returned (.tuple #[]) ∧ Cur w' wb.heap.size p 2 53 (n0 + 1 + 5 * n) (zs0 ++ ((n : Int) :: JB l)) ∧ Below wb.heap.size wb w' := by
  have hL := Lib.hid hl
  have HS := Lib.hid hS
  have HC := Lib.hid hC
  clear hl hS hC
  go_enter Try.func26, Try.ntmps26
  go_wp2_with fail
  refine (put_any wb.heap.size p n0 1 1 zs0 [(n : Int)] _ _ (HC.out.alloc _) rfl (cell_one_new _ _ _) (by omega)).mono ?_
  rintro e w1 ⟨rfl, C1, b1⟩
  have f1 : Below wb.heap.size wb w1 := (hB.alloc hB.size _).trans b1
  have HC1 := Lib.hid C1
  clear C1 b1 HC
  go_wp2
  go_loopw [13] (fun i wr => ∃ k : Nat, k ≤ n ∧ i = .int .i64 k ∧ Below wb.heap.size wb wr ∧ Hid (Cur wr wb.heap.size p 2 53 (n0 + 1 + 5 * k) (zs0 ++ ((n : Int) :: JB (l.take k))))) (fun i _ => n - (intOf i).toNat)
  case atStart => exact ⟨0, Nat.zero_le _, rfl, f1, Lib.hid (by simpa [JB] using HC1.out)⟩
  case round =>
    obtain ⟨k, hk, rfl, hbl, hcu⟩ := hrel
    by_cases hlt : k < n
    · obtain ⟨b, off, rfl, hb, hcell⟩ := sl_jobs HS.out (by omega)
      obtain ⟨h0, h1, h2, h3, h4⟩ := hcell k hlt
      clear hcell
      rw [← hbl.cell (by exact hb)] at h0 h1 h2 h3 h4
      generalize hpp : l.getD k default = pp at h0 h1 h2 h3 h4
      obtain ⟨x, y, x2, x3, x4⟩ := pp
      simp only at h0 h1 h2 h3 h4
      have HP := Lib.hid hpp
      clear hpp
      have hbr : b < wr.heap.size := Nat.lt_of_lt_of_le hb hbl.size
      have hkn : (k : Int) < (n : Int) := by omega
      go_wp2_with fail
      refine calls_named ?_
      rintro wq hwq
      have CQ : Cur wq wb.heap.size p 2 53 (n0 + 1 + 5 * k) (zs0 ++ ((n : Int) :: JB (l.take k))) := by rw [hwq]; exact (hcu.out.alloc _).alloc _
      have hnw : ∀ j u, (ints [x, y, x2, x3, x4])[j]? = some u → wq.cell? ((⟨wr.heap.size + 1, 0, none⟩ : Addr).add j) = some u := by rw [hwq]; exact cell_five_at _ _ _ _ _ _ _ _ (by simp)
      have fq : Below wb.heap.size wb wq := by rw [hwq]; exact (hbl.alloc hbl.size _).alloc (by have := hbl.size; simp; omega) _
      clear hwq
      refine (put_any wb.heap.size p (n0 + 1 + 5 * k) 5 5 (zs0 ++ ((n : Int) :: JB (l.take k))) [x, y, x2, x3, x4] _ wq CQ rfl hnw (by omega)).mono ?_
      rintro e w2 ⟨rfl, C2, b2⟩
      have f2 : Below wb.heap.size wb w2 := fq.trans b2
      have HC2 := Lib.hid C2
      clear C2 b2
      go_wp2
      refine ⟨⟨k + 1, by omega, by go_num, f2, Lib.hid ?_⟩, by simp [intOf]; omega⟩
      rw [JB_take (hL.out.symm ▸ hlt), HP.out]
      have := HC2.out
      rw [List.append_assoc, List.cons_append] at this
      exact this
    · have hkn : k = n := by omega
      subst hkn
      go_wp2
      go_end0
      have := hcu.out
      rw [List.take_of_length_le (by have := hL.out; omega)] at this
      exact ⟨rfl, this, hbl⟩
end Go.Proofs.Ytokklkmibjpjnaa
namespace Go.Proofs.Ytokklkmibjpjnaa
set_option linter.unusedSimpArgs false
set_option linter.unusedVariables false
attribute [local go_sem] n_lt2 n_lt3 n_lt4 n_le2 n_le3
open Go.RowKit
attribute [local go_sem] Ext.cell Ext.frozen


theorem info_Job : (Try.prog.info? 70).map (fun i => (i.zero, i.size, i.bytes)) = some (some (.agg #[.int .i64 0, .int .i64 0, .int .i64 0, .int .i64 0, .int .i64 0]), 5, 40) := by kernel_rfl



set_option maxHeartbeats 2000000 in
theorem equalJobS_any (A B : Option Addr) (n m cap cap' : Nat) (zs ys : List Int) (w : World) (hS : Sl w 5 A n zs) (hT : Sl w 5 B m ys) (hn : n ≤ maxLen) (hm : m ≤ maxLen) :
    Calls Try.prog 66 #[.slice A n cap, .slice B m cap'] w fun e w' => e = .returned (.bool (eqL zs ys)) ∧ Below w.heap.size w w' := by
  unfold maxLen at hn hm
  by_cases hnm : n = m
  · subst hnm
    have HS := Lib.hid hS
    have HT := Lib.hid hT
    clear hS hT
    go_enter Try.func66, Try.ntmps66
    go_wp2
    go_loopw [13] (fun i wr => ∃ (k : Nat), k ≤ n ∧ i = .int .i64 k ∧ Below w.heap.size w wr ∧ Hid (∀ j, j < k * 5 → zs.getD j 0 = ys.getD j 0)) (fun i _ => n - (intOf i).toNat)
    case atStart => exact ⟨0, Nat.zero_le _, rfl, Below.refl _ _, fun j hj => absurd hj (by omega)⟩
    case round =>
      obtain ⟨k, hk, rfl, hbl, hall⟩ := hrel
      by_cases hlt : k < n
      · obtain ⟨b, off, rfl, hb, hcell⟩ := HS.out.at_ (by omega)
        obtain ⟨b', off', rfl, hb', hcell'⟩ := HT.out.at_ (by omega)
        have h0 := hcell (k * 5) (by omega)
        have h1 := hcell (k * 5 + 1) (by omega)
        have h2 := hcell (k * 5 + 2) (by omega)
        have h3 := hcell (k * 5 + 3) (by omega)
        have h4 := hcell (k * 5 + 4) (by omega)
        have p0 := hcell' (k * 5) (by omega)
        have p1 := hcell' (k * 5 + 1) (by omega)
        have p2 := hcell' (k * 5 + 2) (by omega)
        have p3 := hcell' (k * 5 + 3) (by omega)
        have p4 := hcell' (k * 5 + 4) (by omega)
        rw [← hbl.cell (by exact hb)] at h0 h1 h2 h3 h4
        rw [← hbl.cell (by exact hb')] at p0 p1 p2 p3 p4
        simp only [← Nat.add_assoc] at h0 h1 h2 h3 h4 p0 p1 p2 p3 p4
        clear hcell hcell'
        generalize hx0 : zs.getD (k * 5) 0 = x0 at h0
        generalize hx1 : zs.getD (k * 5 + 1) 0 = x1 at h1
        generalize hx2 : zs.getD (k * 5 + 2) 0 = x2 at h2
        generalize hx3 : zs.getD (k * 5 + 3) 0 = x3 at h3
        generalize hx4 : zs.getD (k * 5 + 4) 0 = x4 at h4
        generalize hy0 : ys.getD (k * 5) 0 = y0 at p0
        generalize hy1 : ys.getD (k * 5 + 1) 0 = y1 at p1
        generalize hy2 : ys.getD (k * 5 + 2) 0 = y2 at p2
        generalize hy3 : ys.getD (k * 5 + 3) 0 = y3 at p3
        generalize hy4 : ys.getD (k * 5 + 4) 0 = y4 at p4
        have HX := Lib.hid (And.intro (And.intro hx0 (And.intro hx1 (And.intro hx2 (And.intro hx3 hx4)))) (And.intro hy0 (And.intro hy1 (And.intro hy2 (And.intro hy3 hy4)))))
        clear hx0 hy0 hx1 hy1 hx2 hy2 hx3 hy3 hx4 hy4
        have hbr : b < wr.heap.size := Nat.lt_of_lt_of_le hb hbl.size
        have hbr' : b' < wr.heap.size := Nat.lt_of_lt_of_le hb' hbl.size
        have hk2 : (k : Int) < (n : Int) := by omega
        have hcs : (¬ x0 = y0) ∨ (x0 = y0 ∧ ¬ x1 = y1) ∨ (x0 = y0 ∧ x1 = y1 ∧ ¬ x2 = y2) ∨ (x0 = y0 ∧ x1 = y1 ∧ x2 = y2 ∧ ¬ x3 = y3) ∨ (x0 = y0 ∧ x1 = y1 ∧ x2 = y2 ∧ x3 = y3 ∧ ¬ x4 = y4) ∨ (x0 = y0 ∧ x1 = y1 ∧ x2 = y2 ∧ x3 = y3 ∧ x4 = y4) := by omega
        rcases hcs with ⟨d0⟩ | ⟨d0, d1⟩ | ⟨d0, d1, d2⟩ | ⟨d0, d1, d2, d3⟩ | ⟨d0, d1, d2, d3, d4⟩ | ⟨d0, d1, d2, d3, d4⟩
        · have hq' : (x0 == y0) = false := by simpa using d0
          go_wp2
          ((refine wp_region_ext (by kernel_rfl) (by kernel_rfl) ?_); (repeat (any_goals (first | go_big_quiet_step (fail) | (refine wpQuiet_step (fun K hK => ?_); go_simp; split <;> (refine hK _ ?_; clear hK K)) | quiet_step (fail)))); (all_goals (refine wpQuiet_nil ?_; rintro _ ⟨z, rfl⟩; have hb' := z.h; generalize z.w = w1 at hb' ⊢; clear z; (first | (have hb2 := bstep hb' hb hb.size; clear hb' hcb hfb hz1 hz2 hz3 hz4 hb; have hb := hb2; clear hb2) | (have hb := hb'; clear hb')); obtain ⟨hcb, hfb, hz1, hz2, hz3, hz4⟩ := bcell hb; (try simp only [World.size_alloc, World.size_setCell, World.size_drew, Nat.lt_add_one_iff, Nat.add_assoc, Nat.reduceAdd] at hz1 hz2 hz3 hz4))))
          go_wp2
          go_ret
          refine ⟨ret_bool (eqL_ne ?_).symm, bstep hb hbl hbl.size⟩
          rintro rfl
          have hxy := HX.out
          exact d0 (hxy.1.1.symm.trans hxy.2.1)
        · have hq' : (x1 == y1) = false := by simpa using d1
          obtain rfl := d0
          go_wp2
          ((refine wp_region_ext (by kernel_rfl) (by kernel_rfl) ?_); (repeat (any_goals (first | go_big_quiet_step (fail) | (refine wpQuiet_step (fun K hK => ?_); go_simp; split <;> (refine hK _ ?_; clear hK K)) | quiet_step (fail)))); (all_goals (refine wpQuiet_nil ?_; rintro _ ⟨z, rfl⟩; have hb' := z.h; generalize z.w = w1 at hb' ⊢; clear z; (first | (have hb2 := bstep hb' hb hb.size; clear hb' hcb hfb hz1 hz2 hz3 hz4 hb; have hb := hb2; clear hb2) | (have hb := hb'; clear hb')); obtain ⟨hcb, hfb, hz1, hz2, hz3, hz4⟩ := bcell hb; (try simp only [World.size_alloc, World.size_setCell, World.size_drew, Nat.lt_add_one_iff, Nat.add_assoc, Nat.reduceAdd] at hz1 hz2 hz3 hz4))))
          go_wp2
          go_ret
          refine ⟨ret_bool (eqL_ne ?_).symm, bstep hb hbl hbl.size⟩
          rintro rfl
          have hxy := HX.out
          exact d1 (hxy.1.2.1.symm.trans hxy.2.2.1)
        · have hq' : (x2 == y2) = false := by simpa using d2
          obtain rfl := d0
          obtain rfl := d1
          go_wp2
          ((refine wp_region_ext (by kernel_rfl) (by kernel_rfl) ?_); (repeat (any_goals (first | go_big_quiet_step (fail) | (refine wpQuiet_step (fun K hK => ?_); go_simp; split <;> (refine hK _ ?_; clear hK K)) | quiet_step (fail)))); (all_goals (refine wpQuiet_nil ?_; rintro _ ⟨z, rfl⟩; have hb' := z.h; generalize z.w = w1 at hb' ⊢; clear z; (first | (have hb2 := bstep hb' hb hb.size; clear hb' hcb hfb hz1 hz2 hz3 hz4 hb; have hb := hb2; clear hb2) | (have hb := hb'; clear hb')); obtain ⟨hcb, hfb, hz1, hz2, hz3, hz4⟩ := bcell hb; (try simp only [World.size_alloc, World.size_setCell, World.size_drew, Nat.lt_add_one_iff, Nat.add_assoc, Nat.reduceAdd] at hz1 hz2 hz3 hz4))))
          go_wp2
          go_ret
          refine ⟨ret_bool (eqL_ne ?_).symm, bstep hb hbl hbl.size⟩
          rintro rfl
          have hxy := HX.out
          exact d2 (hxy.1.2.2.1.symm.trans hxy.2.2.2.1)
        · have hq' : (x3 == y3) = false := by simpa using d3
          obtain rfl := d0
          obtain rfl := d1
          obtain rfl := d2
          go_wp2
          ((refine wp_region_ext (by kernel_rfl) (by kernel_rfl) ?_); (repeat (any_goals (first | go_big_quiet_step (fail) | (refine wpQuiet_step (fun K hK => ?_); go_simp; split <;> (refine hK _ ?_; clear hK K)) | quiet_step (fail)))); (all_goals (refine wpQuiet_nil ?_; rintro _ ⟨z, rfl⟩; have hb' := z.h; generalize z.w = w1 at hb' ⊢; clear z; (first | (have hb2 := bstep hb' hb hb.size; clear hb' hcb hfb hz1 hz2 hz3 hz4 hb; have hb := hb2; clear hb2) | (have hb := hb'; clear hb')); obtain ⟨hcb, hfb, hz1, hz2, hz3, hz4⟩ := bcell hb; (try simp only [World.size_alloc, World.size_setCell, World.size_drew, Nat.lt_add_one_iff, Nat.add_assoc, Nat.reduceAdd] at hz1 hz2 hz3 hz4))))
          go_wp2
          go_ret
          refine ⟨ret_bool (eqL_ne ?_).symm, bstep hb hbl hbl.size⟩
          rintro rfl
          have hxy := HX.out
          exact d3 (hxy.1.2.2.2.1.symm.trans hxy.2.2.2.2.1)
        · have hq' : (x4 == y4) = false := by simpa using d4
          obtain rfl := d0
          obtain rfl := d1
          obtain rfl := d2
          obtain rfl := d3
          go_wp2
          ((refine wp_region_ext (by kernel_rfl) (by kernel_rfl) ?_); (repeat (any_goals (first | go_big_quiet_step (fail) | (refine wpQuiet_step (fun K hK => ?_); go_simp; split <;> (refine hK _ ?_; clear hK K)) | quiet_step (fail)))); (all_goals (refine wpQuiet_nil ?_; rintro _ ⟨z, rfl⟩; have hb' := z.h; generalize z.w = w1 at hb' ⊢; clear z; (first | (have hb2 := bstep hb' hb hb.size; clear hb' hcb hfb hz1 hz2 hz3 hz4 hb; have hb := hb2; clear hb2) | (have hb := hb'; clear hb')); obtain ⟨hcb, hfb, hz1, hz2, hz3, hz4⟩ := bcell hb; (try simp only [World.size_alloc, World.size_setCell, World.size_drew, Nat.lt_add_one_iff, Nat.add_assoc, Nat.reduceAdd] at hz1 hz2 hz3 hz4))))
          go_wp2
          go_ret
          refine ⟨ret_bool (eqL_ne ?_).symm, bstep hb hbl hbl.size⟩
          rintro rfl
          have hxy := HX.out
          exact d4 (hxy.1.2.2.2.2.symm.trans hxy.2.2.2.2.2)
        · obtain rfl := d0
          obtain rfl := d1
          obtain rfl := d2
          obtain rfl := d3
          obtain rfl := d4
          go_wp2
          ((refine wp_region_ext (by kernel_rfl) (by kernel_rfl) ?_); (repeat (any_goals (first | go_big_quiet_step (fail) | (refine wpQuiet_step (fun K hK => ?_); go_simp; split <;> (refine hK _ ?_; clear hK K)) | quiet_step (fail)))); (all_goals (refine wpQuiet_nil ?_; rintro _ ⟨z, rfl⟩; have hb' := z.h; generalize z.w = w1 at hb' ⊢; clear z; (first | (have hb2 := bstep hb' hb hb.size; clear hb' hcb hfb hz1 hz2 hz3 hz4 hb; have hb := hb2; clear hb2) | (have hb := hb'; clear hb')); obtain ⟨hcb, hfb, hz1, hz2, hz3, hz4⟩ := bcell hb; (try simp only [World.size_alloc, World.size_setCell, World.size_drew, Nat.lt_add_one_iff, Nat.add_assoc, Nat.reduceAdd] at hz1 hz2 hz3 hz4))))
          go_wp2
          refine ⟨⟨k + 1, by omega, by go_num, bstep hb hbl hbl.size, ?_⟩, by simp [intOf]; omega⟩
          intro j hj
          have hxy := HX.out
          rcases (by omega : j < k * 5 ∨ j = k * 5 ∨ j = k * 5 + 1 ∨ j = k * 5 + 2 ∨ j = k * 5 + 3 ∨ j = k * 5 + 4) with h | h | h | h | h | h
          · exact hall.out j h
          · rw [h, hxy.1.1, hxy.2.1]
          · rw [h, hxy.1.2.1, hxy.2.2.1]
          · rw [h, hxy.1.2.2.1, hxy.2.2.2.1]
          · rw [h, hxy.1.2.2.2.1, hxy.2.2.2.2.1]
          · rw [h, hxy.1.2.2.2.2, hxy.2.2.2.2.2]
      · have hkn : k = n := by omega
        subst hkn
        go_wp2
        go_ret
        have hzy : zs = ys := list_ext_getD (by rw [HS.out.len, HT.out.len]) (fun j hj => hall.out j (by rw [HS.out.len] at hj; omega))
        exact ⟨ret_bool (by rw [hzy]; exact (eqL_self _).symm), hbl⟩
  · have hne : ¬ (n : Int) = (m : Int) := by omega
    have hz : eqL zs ys = false := by
      refine eqL_ne ?_
      rintro rfl
      have h1 := hS.len
      have h2 := hT.len
      omega
    rw [hz]
    clear hz hS hT
    go_enter Try.func66, Try.ntmps66
    go_wp2
    go_ret
    exact ⟨rfl, Below.refl _ _⟩


end Go.Proofs.Ytokklkmibjpjnaa
namespace Go.Proofs.Ytokklkmibjpjnaa
set_option linter.unusedSimpArgs false
set_option linter.unusedVariables false
attribute [local go_sem] n_lt2 n_lt3 n_lt4 n_le2 n_le3
open Go.RowKit
theorem JB_inj {a b : List Jb} (h : JB a = JB b) : a = b := by
  have hl : a.length = b.length := by
    have := congrArg List.length h
    rw [JB_len, JB_len] at this
    omega
  apply List.ext_getElem hl
  intro i h1 h2
  have e : ∀ j, j < 5 → _ := fun j hj => JB_get a i j h1 hj
  have e' : ∀ j, j < 5 → _ := fun j hj => JB_get b i j h2 hj
  rw [h] at e
  have e0 := (e 0 (by decide)).symm.trans (e' 0 (by decide))
  have e1 := (e 1 (by decide)).symm.trans (e' 1 (by decide))
  have e2 := (e 2 (by decide)).symm.trans (e' 2 (by decide))
  have e3 := (e 3 (by decide)).symm.trans (e' 3 (by decide))
  have e4 := (e 4 (by decide)).symm.trans (e' 4 (by decide))
  have ga : a.getD i default = a[i] := by simp [List.getD, h1]
  have gb : b.getD i default = b[i] := by simp [List.getD, h2]
  rw [ga, gb] at e0 e1 e2 e3 e4
  cases ha : a[i]; cases hb : b[i]
  rw [ha, hb] at e0 e1 e2 e3 e4
  simp only [List.getD_cons_zero, List.getD_cons_succ] at e0 e1 e2 e3 e4
  rw [e0, e1, e2, e3, e4]
theorem rowj_get {a : Int} {l : List Jb} {k q t : Nat} (hq : q = 1 + 5 * k) (h : k < l.length) (ht : t < 5) : (a :: JB l).getD (q + t) 0 = [(l.getD k default).i, (l.getD k default).d, (l.getD k default).k, (l.getD k default).v, (l.getD k default).f].getD t 0 := by
  subst hq
  rw [show 1 + 5 * k + t = (k * 5 + t) + 1 by omega, List.getD_cons_succ, JB_get l k t h ht]
theorem jobsB_len {l : List Jb} (h : jobsB l = true) : l.length ≤ 10 := Nat.le_trans (jobsB_all h).1 (by decide)
def rowGoodJ (a : Int) (l : List Jb) : Bool := decide (a = (l.length : Int)) && jobsB l
def rowSelJ (a : Int) (l : List Jb) : List Jb := if rowGoodJ a l = true then l else []
attribute [local go_sem] Ext.cell Ext.frozen

end Go.Proofs.Ytokklkmibjpjnaa
namespace Go.Proofs.Ytokklkmibjpjnaa
set_option linter.unusedSimpArgs false
set_option linter.unusedVariables false
attribute [local go_sem] n_lt2 n_lt3 n_lt4 n_le2 n_le3
open Go.RowKit

theorem jobAtB_lt {l : List Jb} {i : Nat} (h : jobAtB l i = true) (hi : 0 < i) : (l.getD (i - 1) default).i < (l.getD i default).i := by
  unfold jobAtB at h
  simp only [Bool.and_eq_true, Bool.or_eq_true, decide_eq_true_eq] at h
  rcases h.2.1 with h0 | h0
  · omega
  · exact h0
theorem jobAtB_ok {l : List Jb} {i : Nat} (h : jobAtB l i = true) : jobOkB (l.getD i default) = true := by
  unfold jobAtB at h
  simp only [Bool.and_eq_true] at h
  exact h.1
theorem jobs_up {l : List Jb} (h : jobsB l = true) : ∀ d i, i + d + 1 < l.length → (l.getD i default).i < (l.getD (i + d + 1) default).i
  | 0, i, hi => by
    have := jobAtB_lt ((jobsB_all h).2 (i + 1) (by omega)) (by omega)
    simpa using this
  | d + 1, i, hi => by
    have h1 := jobs_up h d i (by omega)
    have h2 := jobs_up h 0 (i + d + 1) (by omega)
    exact Int.lt_trans h1 h2
theorem jobs_lt {l : List Jb} (h : jobsB l = true) : l.Pairwise (fun p q => p.i < q.i) := by
  rw [List.pairwise_iff_getElem]
  intro i j hi hj hij
  have := jobs_up h (j - i - 1) i (by omega)
  rw [show i + (j - i - 1) + 1 = j by omega] at this
  simpa only [List.getD, List.getElem?_eq_getElem hi, List.getElem?_eq_getElem hj, Option.getD_some] using this
theorem jobs_rng {l : List Jb} (h : jobsB l = true) : ∀ p ∈ l, 1 ≤ p.i ∧ p.i ≤ 20 := fun p hp => by
  obtain ⟨i, hi, rfl⟩ := List.getElem_of_mem hp
  have := jobAtB_ok ((jobsB_all h).2 i hi)
  simp only [List.getD, List.getElem?_eq_getElem hi, Option.getD_some, jobOkB, jobB, Bool.and_eq_true, inB_iff] at this
  exact this.1
theorem jobIx_at {l : List Jb} {key : Int} {k : Nat} (h : jobsB l = true) (hk : k < l.length) (he : (l.getD k default).i = key) : jobIx l key = k :=
  jobIx_some hk (fun j hj he' => by
    have := jobs_up h (k - j - 1) j (by omega)
    rw [show j + (k - j - 1) + 1 = k by omega] at this
    omega) he
theorem jobIx_hit {l : List Jb} {key : Int} (h : jobIx l key < l.length) : (l.getD (jobIx l key) default).i = key := by
  have := List.findIdx_getElem (p := fun p : Jb => decide (p.i = key)) (w := h)
  simp only [decide_eq_true_eq] at this
  simp only [List.getD, List.getElem?_eq_getElem h, Option.getD_some]
  exact this
theorem firIx_hit {l : List Jb} {x : Int} (h : l.findIdx (fun p => decide (p.f = x)) < l.length) : firedBefore l l.length x = true := by
  have := List.findIdx_getElem (p := fun p : Jb => decide (p.f = x)) (w := h)
  simp only [decide_eq_true_eq] at this
  exact firedBefore_true h (by simp only [List.getD, List.getElem?_eq_getElem h, Option.getD_some]; exact this)
theorem firIx_miss {l : List Jb} {x : Int} (h : ¬ l.findIdx (fun p => decide (p.f = x)) < l.length) : firedBefore l l.length x = false := by
  refine firedBefore_false (fun j hj he => h ?_)
  refine List.findIdx_lt_length_of_exists ⟨l[j], List.getElem_mem hj, ?_⟩
  simp only [List.getD, List.getElem?_eq_getElem hj, Option.getD_some] at he
  simpa using he

def lookJ (l : List Jb) (key : Int) : Option Jb := l.find? (fun p => decide (p.i = key))
theorem lookJ_cons (p : Jb) (l : List Jb) (key : Int) : lookJ (p :: l) key = if p.i = key then some p else lookJ l key := by
  unfold lookJ
  rw [List.find?_cons]
  by_cases h : p.i = key <;> simp [h]
theorem lookJ_key {l : List Jb} {key : Int} {p : Jb} (h : lookJ l key = some p) : p.i = key ∧ p ∈ l := by
  unfold lookJ at h
  exact ⟨by simpa using List.find?_some h, List.mem_of_find?_eq_some h⟩
theorem lookJ_none {l : List Jb} {key : Int} (h : ∀ p ∈ l, p.i ≠ key) : lookJ l key = none := by
  unfold lookJ
  rw [List.find?_eq_none]
  intro p hp
  simpa using h p hp
theorem jobAtV_look (l : List Jb) (key : Int) : jobAtV l key = match lookJ l key with | some p => (p, true) | none => (default, false) := by
  induction l with
  | nil => rfl
  | cons p l ih =>
    rw [lookJ_cons]
    by_cases h : p.i = key
    · have : jobIx (p :: l) key = 0 := by simp [jobIx, List.findIdx_cons, h]
      simp [jobAtV, this, h]
    · have h1 : jobIx (p :: l) key = jobIx l key + 1 := by simp [jobIx, List.findIdx_cons, h]
      rw [if_neg h, ← ih]
      simp [jobAtV, h1]
theorem jobAtV_there {l : List Jb} {key : Int} (h : (jobAtV l key).2 = false) : ∀ p ∈ l, p.i ≠ key := by
  intro p hp he
  unfold jobAtV at h
  rw [if_pos] at h
  · cases h
  · exact List.findIdx_lt_length_of_exists ⟨p, hp, by simpa using he⟩
theorem canonJ : ∀ (m : Nat) (a : Int) (l : List Jb), l.Pairwise (fun p q => p.i < q.i) → (∀ p ∈ l, a ≤ p.i ∧ p.i < a + m) → (List.range m).filterMap (fun j : Nat => lookJ l (a + j)) = l
  | 0, a, l, _, h => by
    match l with
    | [] => rfl
    | p :: l => have := h p (by simp); omega
  | m + 1, a, l, hs, h => by
    have hstep : ∀ t : List Jb, (List.range m).filterMap (fun j : Nat => lookJ t (a + (j + 1 : Nat))) = (List.range m).filterMap (fun j : Nat => lookJ t (a + 1 + j)) := fun t => by
      congr 1
      funext j
      congr 1
      omega
    rw [List.range_succ_eq_map, List.filterMap_cons, List.filterMap_map]
    rw [show ((fun j : Nat => lookJ l (a + j)) ∘ Nat.succ) = (fun j : Nat => lookJ l (a + (j + 1 : Nat))) from rfl]
    match l with
    | [] =>
      rw [lookJ_none (by simp), hstep]
      exact canonJ m (a + 1) [] List.Pairwise.nil (by simp)
    | p :: t =>
      rw [List.pairwise_cons] at hs
      by_cases hp : p.i = a
      · rw [lookJ_cons, if_pos (by omega)]
        simp only
        congr 1
        have e : ∀ j : Nat, lookJ (p :: t) (a + (j + 1 : Nat)) = lookJ t (a + 1 + j) := fun j => by
          rw [lookJ_cons, if_neg (by omega)]
          congr 1
          omega
        simp only [e]
        exact canonJ m (a + 1) t hs.2 (fun q hq => by
          have h1 := hs.1 q hq
          have h2 := h q (by simp [hq])
          omega)
      · have h0 := h p (by simp)
        rw [lookJ_none (fun q hq => by
          rcases List.mem_cons.1 hq with rfl | hq
          · omega
          · have := hs.1 q hq
            omega), hstep]
        exact canonJ m (a + 1) (p :: t) (List.pairwise_cons.2 hs) (fun q hq => by
          have h2 := h q hq
          rcases List.mem_cons.1 hq with rfl | hq
          · omega
          · have := hs.1 q hq
            omega)

/-- The job put at its place. -/
def addL : List Jb → Jb → List Jb
  | [], x => [x]
  | p :: t, x => if p.i < x.i then p :: addL t x else x :: p :: t
theorem addL_look (l : List Jb) (x : Jb) (k : Int) : lookJ (addL l x) k = if k = x.i then some x else lookJ l k := by
  induction l with
  | nil =>
    rw [addL, lookJ_cons]
    by_cases h : k = x.i
    · simp [h]
    · rw [if_neg (by simpa using Ne.symm h), if_neg h]
  | cons p t ih =>
    rw [addL]
    split
    · rename_i h1
      rw [lookJ_cons, ih, lookJ_cons]
      by_cases h : k = x.i
      · rw [if_neg (by omega), if_pos h, if_pos h]
      · rw [if_neg h, if_neg h]
    · rw [lookJ_cons]
      by_cases h : k = x.i
      · rw [if_pos h.symm, if_pos h]
      · rw [if_neg (by simpa using Ne.symm h), if_neg h]
theorem addL_mem {l : List Jb} {x q : Jb} (h : q ∈ addL l x) : q = x ∨ q ∈ l := by
  induction l with
  | nil => rw [addL] at h; simpa using h
  | cons p t ih =>
    rw [addL] at h
    split at h
    · rcases List.mem_cons.1 h with rfl | h
      · exact .inr (by simp)
      · rcases ih h with h | h
        · exact .inl h
        · exact .inr (by simp [h])
    · rcases List.mem_cons.1 h with rfl | h
      · exact .inl rfl
      · exact .inr h
theorem addL_lt {l : List Jb} {x : Jb} (h : l.Pairwise (fun p q => p.i < q.i)) (hx : ∀ p ∈ l, p.i ≠ x.i) : (addL l x).Pairwise (fun p q => p.i < q.i) := by
  induction l with
  | nil => simp [addL]
  | cons p t ih =>
    rw [List.pairwise_cons] at h
    have hp := hx p (by simp)
    rw [addL]
    split
    · rename_i h1
      rw [List.pairwise_cons]
      refine ⟨fun q hq => ?_, ih h.2 (fun q hq => hx q (by simp [hq]))⟩
      rcases addL_mem hq with rfl | hq
      · exact h1
      · exact h.1 q hq
    · rename_i h1
      rw [List.pairwise_cons, List.pairwise_cons]
      refine ⟨fun q hq => ?_, h⟩
      rcases List.mem_cons.1 hq with rfl | hq
      · omega
      · have := h.1 q hq; omega
theorem addL_len (l : List Jb) (x : Jb) : (addL l x).length = l.length + 1 := by
  induction l with
  | nil => simp [addL]
  | cons p t ih =>
    rw [addL]
    split
    · simp [ih]
    · simp
theorem addL_ins : ∀ (k : Nat) (l : List Jb) (x : Jb), k ≤ l.length → (∀ j, j < k → (l.getD j default).i < x.i) → (k < l.length → ¬ (l.getD k default).i < x.i) → addL l x = l.take k ++ x :: l.drop k
  | 0, [], x, _, _, _ => rfl
  | 0, p :: t, x, _, _, he => by
    have he' := he (by simp)
    simp only [List.getD_cons_zero] at he'
    rw [addL, if_neg he']
    rfl
  | k + 1, [], x, h, _, _ => by simp at h
  | k + 1, p :: t, x, h, hj, he => by
    have h0 := hj 0 (by omega)
    simp only [List.getD_cons_zero] at h0
    rw [addL, if_pos h0, addL_ins k t x (by simpa using h) (fun j hjk => by simpa using hj (j + 1) (by omega)) (fun h' => by simpa using he (by simpa using h'))]
    rfl
/-- What the reference lists. -/
def addG (l : List Jb) (x : Jb) (j : Nat) : Option Jb := if (j : Int) + 1 = x.i then some x else if (jobAtV l ((j : Int) + 1)).2 = true then some (jobAtV l ((j : Int) + 1)).1 else none
def addTo (l : List Jb) (x : Jb) (k : Nat) : List Jb := (List.range k).filterMap (addG l x)
theorem addTo_succ (l : List Jb) (x : Jb) (k : Nat) : addTo l x (k + 1) = addTo l x k ++ (addG l x k).toList := by
  unfold addTo
  rw [List.range_succ, List.filterMap_append]
  congr 1
theorem addTo_len (l : List Jb) (x : Jb) (k : Nat) : (addTo l x k).length ≤ k := by
  unfold addTo
  exact Nat.le_trans (List.length_filterMap_le _ _) (by simp)
theorem addG_look (l : List Jb) (x : Jb) (j : Nat) : addG l x j = lookJ (addL l x) (1 + (j : Int)) := by
  rw [addL_look, Int.add_comm 1 (j : Int)]
  unfold addG
  by_cases h : (j : Int) + 1 = x.i
  · rw [if_pos h, if_pos h]
  · rw [if_neg h, if_neg h, jobAtV_look]
    cases hl : lookJ l ((j : Int) + 1) with
    | none => simp
    | some p => simp
theorem addTo_all {l : List Jb} {x : Jb} (h : jobsB l = true) (hk : 1 ≤ x.i ∧ x.i ≤ 20) (hx : ∀ p ∈ l, p.i ≠ x.i) : addTo l x 20 = addL l x := by
  have e : addG l x = fun j : Nat => lookJ (addL l x) (1 + (j : Int)) := funext (addG_look l x)
  unfold addTo
  rw [e]
  refine canonJ 20 1 (addL l x) (addL_lt (jobs_lt h) hx) (fun p hp => ?_)
  rcases addL_mem hp with rfl | hp
  · omega
  · have := jobs_rng h p hp
    omega
def addOk (l : List Jb) (x : Jb) : Bool := jobOkB x && (decide (x.f = 0) && (!(jobAtV l x.i).2 && decide (l.length < 8)))
/-- JobAdded's two results. -/
def addR (l : List Jb) (x : Jb) : List Jb × Bool := if jobsB l = true then (if addOk l x = true then (addL l x, true) else (l, false)) else ([], false)
theorem addR_len (l : List Jb) (x : Jb) : (addR l x).1.length ≤ 9 := by
  unfold addR
  split
  · rename_i h
    have h1 := (jobsB_all h).1
    split
    · simp only [addL_len]; omega
    · simp only; omega
  · simp

/-- JobFired's two results. -/
def firedOk (l : List Jb) (id x : Int) : Bool := decide (jobIx l id < l.length) && (decide ((l.getD (jobIx l id) default).f = 0) && (inB x 1 2000 && !firedBefore l l.length x))
def firedSet (l : List Jb) (k : Nat) (x : Int) : List Jb := l.set k { (l.getD k default) with f := x }
def firedR (l : List Jb) (id x : Int) : List Jb × Bool := if jobsB l = true then (if firedOk l id x = true then (firedSet l (jobIx l id) x, true) else (l, false)) else ([], false)
theorem firedR_len (l : List Jb) (id x : Int) : (firedR l id x).1.length ≤ 9 := by
  unfold firedR
  split
  · rename_i h
    have h1 := (jobsB_all h).1
    split
    · simp only [firedSet, List.length_set]; omega
    · simp only; omega
  · simp
theorem JB_take' (l : List Jb) (k : Nat) : JB (l.take k) = (JB l).take (k * 5) := by
  induction l generalizing k with
  | nil => simp [JB]
  | cons p l ih =>
    cases k with
    | zero => simp [JB]
    | succ k =>
      have := ih k
      rw [List.take_succ_cons, show (k + 1) * 5 = k * 5 + 1 + 1 + 1 + 1 + 1 by omega]
      simp only [JB, List.flatMap_cons, List.cons_append, List.nil_append, List.take_succ_cons] at this ⊢
      rw [this]
theorem JB_drop' (l : List Jb) (k : Nat) : JB (l.drop k) = (JB l).drop (k * 5) := by
  induction l generalizing k with
  | nil => simp [JB]
  | cons p l ih =>
    cases k with
    | zero => simp [JB]
    | succ k =>
      have := ih k
      rw [List.drop_succ_cons, show (k + 1) * 5 = k * 5 + 1 + 1 + 1 + 1 + 1 by omega]
      simp only [JB, List.flatMap_cons, List.cons_append, List.nil_append, List.drop_succ_cons] at this ⊢
      exact this
theorem JB_ins (l : List Jb) (k : Nat) (x : Jb) : JB (l.take k ++ x :: l.drop k) = (JB l).take (k * 5) ++ [x.i, x.d, x.k, x.v, x.f] ++ (JB l).drop (k * 5) := by
  rw [JB_append, JB_take', List.append_assoc]
  congr 1
  show [x.i, x.d, x.k, x.v, x.f] ++ JB (l.drop k) = _
  rw [JB_drop']
theorem JB_fired_getD (l : List Jb) (k : Nat) (v : Int) (hk : k < l.length) (t : Nat) (ht : t < l.length * 5) : (JB (firedSet l k v)).getD t 0 = if t = k * 5 + 4 then v else (JB l).getD t 0 := by
  have hlen : (firedSet l k v).length = l.length := by simp [firedSet]
  have hi : t / 5 < l.length := by omega
  have hset : (firedSet l k v).getD (t / 5) default = if t / 5 = k then { (l.getD k default) with f := v } else l.getD (t / 5) default := by
    unfold firedSet
    by_cases h : t / 5 = k
    · rw [h]; simp [List.getD, hk]
    · rw [if_neg h]; simp [List.getD, List.getElem?_set_ne (Ne.symm h)]
  have ht' : t = t / 5 * 5 + t % 5 := by omega
  have h5 : t % 5 < 5 := Nat.mod_lt _ (by decide)
  have e1 := JB_get (firedSet l k v) (t / 5) (t % 5) (by rw [hlen]; exact hi) h5
  have e2 := JB_get l (t / 5) (t % 5) hi h5
  rw [← ht'] at e1 e2
  rw [e1, e2, hset]
  by_cases h : t / 5 = k
  · rw [if_pos h]
    by_cases h4 : t % 5 = 4
    · rw [if_pos (by omega), h4]; rfl
    · rw [if_neg (by omega), h]
      rcases (by omega : t % 5 = 0 ∨ t % 5 = 1 ∨ t % 5 = 2 ∨ t % 5 = 3) with e | e | e | e <;> rw [e] <;> rfl
  · rw [if_neg h, if_neg (by omega)]
end Go.Proofs.Ytokklkmibjpjnaa
namespace Go.Proofs.Ytokklkmibjpjnaa
set_option linter.unusedSimpArgs false
set_option linter.unusedVariables false
attribute [local go_sem] n_lt2 n_lt3 n_lt4 n_le2 n_le3
open Go.RowKit

structure Du where
  i : Int
  d : Int
instance : Inhabited Du := ⟨⟨0, 0⟩⟩
def DU (l : List Du) : List Int := l.flatMap fun j => [j.i, j.d]
theorem DU_len (l : List Du) : (DU l).length = l.length * 2 := flat_len _ 2 l (fun _ _ => rfl)
theorem DU_append (a b : List Du) : DU (a ++ b) = DU a ++ DU b := by simp [DU]
theorem DU_get (l : List Du) (i j : Nat) (h : i < l.length) (hj : j < 2) : (DU l).getD (i * 2 + j) 0 = [(l.getD i default).i, (l.getD i default).d].getD j 0 := by
  have := flat_getD (fun j : Du => [j.i, j.d]) 2 l (fun _ _ => rfl) i j h hj
  have e : l.getD i default = l[i] := by simp [List.getD, h]
  rw [e]
  exact this
theorem DU_of : ∀ (n : Nat) (zs : List Int), zs.length = n * 2 → ∃ l : List Du, l.length = n ∧ DU l = zs
  | 0, zs, h => ⟨[], rfl, by simpa [DU] using (List.eq_nil_of_length_eq_zero (by omega)).symm⟩
  | n + 1, a0 :: a1 :: zs, h => by
    obtain ⟨l, hl, he⟩ := DU_of n zs (by simp at h; omega)
    exact ⟨⟨a0, a1⟩ :: l, by simp [hl], by rw [← he]; rfl⟩
  | n + 1, [], h => by simp at h
  | n + 1, [_], h => by simp at h; omega
theorem sl_dues {w : World} {A : Option Addr} {n : Nat} {l : List Du} (h : Sl w 2 A n (DU l)) (hn : 0 < n) : ∃ b off, A = some ⟨b, off, none⟩ ∧ b < w.heap.size ∧
    ∀ i, i < n → w.cell? ⟨b, off + i * 2, none⟩ = some (.int .i64 (l.getD i default).i) ∧ w.cell? ⟨b, off + i * 2 + 1, none⟩ = some (.int .i64 (l.getD i default).d) := by
  have hl : l.length = n := by
    have := h.len
    rw [DU_len] at this
    omega
  obtain ⟨b, off, hA, hb, hc⟩ := h.at_ hn
  have hg : ∀ i, i < n → ∀ j, j < 2 → w.cell? ⟨b, off + i * 2 + j, none⟩ = some (.int .i64 ([(l.getD i default).i, (l.getD i default).d].getD j 0)) := fun i hi j hj => by
    rw [Nat.add_assoc, hc (i * 2 + j) (by omega), DU_get l i j (by omega) hj]
  exact ⟨b, off, hA, hb, fun i hi => ⟨hg i hi 0 (by decide), hg i hi 1 (by decide)⟩⟩

def openJ (j : Jb) : Bool := decide (j.f = 0)
def duOf (j : Jb) : Du := ⟨j.i, j.d⟩
def duLt (a b : Du) : Prop := a.d < b.d ∨ (a.d = b.d ∧ a.i < b.i)
/-- The open jobs, in the list's order. -/
def opens (l : List Jb) : List Du := (l.filter openJ).map duOf
def kInsF (l : List Du) (d : Int) : Nat → Nat
  | 0 => 0
  | k + 1 => if d < (l.getD k default).d then kInsF l d k else k + 1
def kIns (l : List Du) (d : Int) : Nat := kInsF l d l.length
def insDu (l : List Du) (x : Du) : List Du := l.take (kIns l x.d) ++ x :: l.drop (kIns l x.d)
theorem kInsF_le (l : List Du) (d : Int) : ∀ n, kInsF l d n ≤ n
  | 0 => Nat.le_refl _
  | n + 1 => by
    unfold kInsF
    split
    · exact Nat.le_trans (kInsF_le l d n) (Nat.le_succ n)
    · exact Nat.le_refl _
theorem kIns_le (l : List Du) (d : Int) : kIns l d ≤ l.length := kInsF_le l d l.length
theorem kInsF_eq {l : List Du} {d : Int} {k : Nat} : ∀ n, k ≤ n → (∀ j, k ≤ j → j < n → d < (l.getD j default).d) → (0 < k → (l.getD (k - 1) default).d ≤ d) → kInsF l d n = k
  | 0, h, _, _ => by
    have : k = 0 := by omega
    subst this
    rfl
  | n + 1, h, hj, hs => by
    unfold kInsF
    by_cases hk : k = n + 1
    · subst hk
      have := hs (by omega)
      rw [if_neg (by simp only [Nat.add_sub_cancel] at this; omega)]
    · rw [if_pos (hj n (by omega) (by omega))]
      exact kInsF_eq n (by omega) (fun j h1 h2 => hj j h1 (by omega)) hs
theorem kIns_eq {l : List Du} {d : Int} {k : Nat} (h : k ≤ l.length) (hj : ∀ j, k ≤ j → j < l.length → d < (l.getD j default).d) (hs : 0 < k → (l.getD (k - 1) default).d ≤ d) : kIns l d = k := kInsF_eq _ h hj hs
theorem kInsF_spec {l : List Du} {d : Int} : ∀ n, (∀ j, kInsF l d n ≤ j → j < n → d < (l.getD j default).d) ∧ (0 < kInsF l d n → (l.getD (kInsF l d n - 1) default).d ≤ d)
  | 0 => ⟨fun j _ h => absurd h (by omega), fun h => absurd h (by unfold kInsF; omega)⟩
  | n + 1 => by
    unfold kInsF
    by_cases h : d < (l.getD n default).d
    · rw [if_pos h]
      refine ⟨fun j h1 h2 => ?_, (kInsF_spec n).2⟩
      rcases Nat.lt_or_ge j n with h3 | h3
      · exact (kInsF_spec n).1 j h1 h3
      · obtain rfl : j = n := by omega
        exact h
    · rw [if_neg h]
      exact ⟨fun j h1 h2 => absurd h1 (by omega), fun _ => by simp only [Nat.add_sub_cancel]; omega⟩
theorem insDu_perm (l : List Du) (x : Du) : (insDu l x).Perm (l ++ [x]) := by
  unfold insDu
  refine List.Perm.trans (List.perm_middle) ?_
  rw [List.take_append_drop]
  exact (List.perm_append_singleton x l).symm
theorem insDu_len (l : List Du) (x : Du) : (insDu l x).length = l.length + 1 := by
  have := (insDu_perm l x).length_eq
  simpa using this
theorem duLt_le {a b : Du} (h : duLt a b) : a.d ≤ b.d := by unfold duLt at h; omega
theorem duLt_asym {a b : Du} (h : duLt a b) (h' : duLt b a) : a = b := by unfold duLt at h h'; omega
theorem insDu_sorted {l : List Du} {x : Du} (h : l.Pairwise duLt) (hx : ∀ y ∈ l, y.i < x.i) : (insDu l x).Pairwise duLt := by
  have hs := @kInsF_spec l x.d l.length
  have hle := kIns_le l x.d
  unfold insDu
  change (∀ j, kIns l x.d ≤ j → j < l.length → x.d < (l.getD j default).d) ∧ (0 < kIns l x.d → (l.getD (kIns l x.d - 1) default).d ≤ x.d) at hs
  generalize kIns l x.d = k at hs hle
  have hp := List.pairwise_iff_getElem.1 h
  rw [List.pairwise_append]
  refine ⟨h.sublist (List.take_sublist _ _), ?_, ?_⟩
  · rw [List.pairwise_cons]
    refine ⟨fun y hy => ?_, h.sublist (List.drop_sublist _ _)⟩
    obtain ⟨j, hj, rfl⟩ := List.getElem_of_mem hy
    rw [List.length_drop] at hj
    rw [List.getElem_drop]
    have := hs.1 (k + j) (by omega) (by omega)
    simp only [List.getD, List.getElem?_eq_getElem (show k + j < l.length by omega), Option.getD_some] at this
    exact .inl this
  · intro a ha b hb
    obtain ⟨i, hi, rfl⟩ := List.getElem_of_mem ha
    rw [List.length_take] at hi
    rw [List.getElem_take]
    have hik : i < k := by omega
    have hil : i < l.length := by omega
    have h1 : l[i].d ≤ x.d := by
      have h2 := hs.2 (by omega)
      simp only [List.getD, List.getElem?_eq_getElem (show k - 1 < l.length by omega), Option.getD_some] at h2
      by_cases h3 : i = k - 1
      · subst h3; exact h2
      · have := duLt_le (hp i (k - 1) hil (by omega) (by omega))
        omega
    rw [List.mem_cons] at hb
    rcases hb with rfl | hb
    · have := hx l[i] (List.getElem_mem hil)
      unfold duLt
      omega
    · obtain ⟨j, hj, rfl⟩ := List.getElem_of_mem hb
      rw [List.length_drop] at hj
      rw [List.getElem_drop]
      exact hp i (k + j) hil (by omega) (by omega)
/-- What the reference's loop has laid behind k jobs. -/
def openTo (l : List Jb) : Nat → List Du
  | 0 => []
  | k + 1 => if openJ (l.getD k default) = true then insDu (openTo l k) (duOf (l.getD k default)) else openTo l k
def openL (l : List Jb) : List Du := openTo l l.length
theorem openTo_len (l : List Jb) : ∀ k, (openTo l k).length ≤ k
  | 0 => Nat.le_refl _
  | k + 1 => by
    have := openTo_len l k
    unfold openTo
    split
    · rw [insDu_len]; omega
    · omega
theorem take_succ_getD {l : List Jb} {k : Nat} (h : k < l.length) : l.take (k + 1) = l.take k ++ [l.getD k default] := by
  rw [List.take_succ_eq_append_getElem h]
  simp [List.getD, h]
theorem opens_snoc (l : List Jb) (j : Jb) : opens (l ++ [j]) = if openJ j = true then opens l ++ [duOf j] else opens l := by
  unfold opens
  rw [List.filter_append, List.map_append]
  by_cases h : openJ j = true <;> simp [List.filter_cons, h]
theorem openTo_perm {l : List Jb} : ∀ k, k ≤ l.length → (openTo l k).Perm (opens (l.take k))
  | 0, _ => by simp [openTo, opens]
  | k + 1, h => by
    rw [take_succ_getD (by omega), opens_snoc]
    unfold openTo
    have ih := openTo_perm (l := l) k (by omega)
    split
    · exact (insDu_perm _ _).trans (ih.append_right _)
    · exact ih
theorem openTo_sorted {l : List Jb} (hl : l.Pairwise (fun p q => p.i < q.i)) : ∀ k, k ≤ l.length → (openTo l k).Pairwise duLt
  | 0, _ => by simp [openTo]
  | k + 1, h => by
    have ih := openTo_sorted hl k (by omega)
    unfold openTo
    split
    · refine insDu_sorted ih (fun y hy => ?_)
      have hy' := (openTo_perm k (by omega)).mem_iff.1 hy
      obtain ⟨p, hp, rfl⟩ := List.mem_map.1 hy'
      have hp1 := (List.mem_filter.1 hp).1
      obtain ⟨i, hi, rfl⟩ := List.getElem_of_mem hp1
      rw [List.length_take] at hi
      rw [List.getElem_take]
      have := List.pairwise_iff_getElem.1 hl i k (by omega) (by omega) (by omega)
      simpa [duOf, List.getD, show k < l.length by omega] using this
    · exact ih
theorem openL_perm (l : List Jb) : (openL l).Perm (opens l) := by
  have := openTo_perm (l := l) l.length (Nat.le_refl _)
  rwa [List.take_length] at this
theorem openL_sorted {l : List Jb} (h : jobsB l = true) : (openL l).Pairwise duLt := openTo_sorted (jobs_lt h) _ (Nat.le_refl _)
theorem openL_len (l : List Jb) : (openL l).length ≤ l.length := openTo_len l l.length
/-- Any sorted order of the open jobs is the reference's. -/
theorem openL_of {l : List Jb} (h : jobsB l = true) {s : List Du} (hp : s.Perm (opens l)) (hs : s.Pairwise (fun a b => ¬ duLt b a)) : s = openL l := by
  have hne : s.Pairwise (fun a b => a.i ≠ b.i) := by
    refine List.Pairwise.perm ?_ hp.symm (fun h => Ne.symm h)
    unfold opens
    rw [List.pairwise_map]
    refine ((jobs_lt h).filter _).imp ?_
    intro a b hab
    show a.i ≠ b.i
    omega
  refine List.Perm.eq_of_pairwise (le := duLt) (fun a b _ _ h1 h2 => duLt_asym h1 h2) ?_ (openL_sorted h) (hp.trans (openL_perm l).symm)
  refine List.Pairwise.imp₂ ?_ hs hne
  intro a b h1 h2
  unfold duLt at h1 ⊢
  omega

/-- DueJobs: of those the ones that are due. -/
def dueTo (s : List Du) (time : Int) : Nat → List Int
  | 0 => []
  | k + 1 => if (s.getD k default).d ≤ time then dueTo s time k ++ [(s.getD k default).i] else dueTo s time k
def dueL (l : List Jb) (time : Int) : List Int := dueTo (openL l) time (openL l).length
theorem dueTo_len (s : List Du) (time : Int) : ∀ k, (dueTo s time k).length ≤ k
  | 0 => Nat.le_refl _
  | k + 1 => by
    have := dueTo_len s time k
    unfold dueTo
    split
    · rw [List.length_append]; simp; omega
    · omega

/-- FiredJobs. -/
def firedJ (j : Jb) : Bool := !openJ j
def fireds (l : List Jb) : List Jb := l.filter firedJ
def firedS (l : List Jb) : List Jb := (fireds l).mergeSort (fun a b => decide (a.f ≤ b.f))
def firL (l : List Jb) : List Int := (firedS l).map (·.i)
theorem firedS_perm (l : List Jb) : (firedS l).Perm (fireds l) := List.mergeSort_perm _ _
theorem firedS_len (l : List Jb) : (firedS l).length ≤ l.length := by
  rw [(firedS_perm l).length_eq]
  exact List.length_filter_le _ _
theorem jobs_fired_ne {l : List Jb} (h : jobsB l = true) : (fireds l).Pairwise (fun a b => a.f ≠ b.f) := by
  unfold fireds
  rw [List.pairwise_filter, List.pairwise_iff_getElem]
  intro i j hi hj hij h1 h2 he
  have h3 := (jobsB_all h).2 j hj
  have h4 := jobAtB_ok h3
  unfold jobAtB at h3
  simp only [Bool.and_eq_true, Bool.not_eq_true', Bool.and_eq_false_iff, decide_eq_false_iff_not] at h3
  have e1 : l.getD j default = l[j] := by simp [List.getD, hj]
  have e2 : l.getD i default = l[i] := by simp [List.getD, hi]
  rw [e1] at h3 h4
  have h5 : 0 ≤ l[j].f := by
    simp only [jobOkB, jobB, Bool.and_eq_true, inB_iff] at h4
    exact h4.2.2.2.2.1
  have h6 : l[j].f ≠ 0 := by simpa [firedJ, openJ] using h2
  rcases h3.2.2 with h7 | h7
  · omega
  · rw [firedBefore_true hij (by rw [e2]; exact he)] at h7
    cases h7
theorem firedS_sorted {l : List Jb} (h : jobsB l = true) : (firedS l).Pairwise (fun a b => a.f < b.f) := by
  have h1 : (firedS l).Pairwise (fun a b => decide (a.f ≤ b.f) = true) := List.pairwise_mergeSort (fun a b c h1 h2 => by simp only [decide_eq_true_eq] at *; omega) (fun a b => by simp only [Bool.or_eq_true, decide_eq_true_eq]; omega) _
  have h2 : (firedS l).Pairwise (fun a b => a.f ≠ b.f) := List.Pairwise.perm (jobs_fired_ne h) (firedS_perm l).symm (fun h => Ne.symm h)
  refine List.Pairwise.imp₂ ?_ h1 h2
  intro a b h3 h4
  simp only [decide_eq_true_eq] at h3
  omega
theorem firedS_of {l : List Jb} (h : jobsB l = true) {s : List Jb} (hp : s.Perm (fireds l)) (hs : s.Pairwise (fun a b => ¬ b.f < a.f)) : s = firedS l := by
  have hne : s.Pairwise (fun a b => a.f ≠ b.f) := List.Pairwise.perm (jobs_fired_ne h) hp.symm (fun h => Ne.symm h)
  refine List.Perm.eq_of_pairwise (le := fun a b : Jb => a.f < b.f) (fun a b _ _ h1 h2 => absurd h1 (by omega)) ?_ (firedS_sorted h) (hp.trans (firedS_perm l).symm)
  refine List.Pairwise.imp₂ ?_ hs hne
  intro a b h1 h2
  omega
def lastF (l : List Jb) (k : Nat) : Int := if k = 0 then 0 else ((firedS l).getD (k - 1) default).f
theorem fired_pos {l : List Jb} (h : jobsB l = true) {p : Jb} (hp : p ∈ fireds l) : 0 < p.f := by
  obtain ⟨h1, h2⟩ := List.mem_filter.1 hp
  obtain ⟨j, hj, rfl⟩ := List.getElem_of_mem h1
  have h4 := jobAtB_ok ((jobsB_all h).2 j hj)
  have e1 : l.getD j default = l[j] := by simp [List.getD, hj]
  rw [e1] at h4
  have h6 : l[j].f ≠ 0 := by simpa [firedJ, openJ] using h2
  simp only [jobOkB, jobB, Bool.and_eq_true, inB_iff] at h4
  have := h4.2.2.2.2.1
  omega
/-- Nothing is fired behind the last one: the list is whole. -/
theorem fired_end {l : List Jb} (h : jobsB l = true) {k : Nat} (hk : k ≤ (firedS l).length) (hn : ∀ j, j < l.length → ¬ lastF l k < (l.getD j default).f) : k = (firedS l).length := by
  rcases Nat.lt_or_ge k (firedS l).length with hlt | hge
  · exfalso
    have hm : (firedS l)[k] ∈ fireds l := (firedS_perm l).mem_iff.1 (List.getElem_mem hlt)
    have hpos := fired_pos h hm
    obtain ⟨j, hj, he⟩ := List.getElem_of_mem (List.mem_filter.1 hm).1
    refine hn j hj ?_
    have e1 : l.getD j default = l[j] := by simp [List.getD, hj]
    rw [e1, he]
    unfold lastF
    split
    · exact hpos
    · have := List.pairwise_iff_getElem.1 (firedS_sorted h) (k - 1) k (by omega) hlt (by omega)
      simpa [List.getD, show k - 1 < (firedS l).length by omega] using this
  · omega
/-- The least one behind the last is the next. -/
theorem fired_next {l : List Jb} (h : jobsB l = true) {k b : Nat} (hk : k ≤ (firedS l).length) (hb : b < l.length) (hl : lastF l k < (l.getD b default).f) (hm : ∀ j, j < l.length → lastF l k < (l.getD j default).f → (l.getD b default).f ≤ (l.getD j default).f) :
    k < (firedS l).length ∧ (firedS l).getD k default = l.getD b default := by
  have hlast : 0 ≤ lastF l k := by
    unfold lastF
    split
    · exact Int.le_refl _
    · have h1 : k - 1 < (firedS l).length := by omega
      have := fired_pos h ((firedS_perm l).mem_iff.1 (List.getElem_mem h1))
      simp only [List.getD, List.getElem?_eq_getElem h1, Option.getD_some]
      omega
  have e1 : l.getD b default = l[b] := by simp [List.getD, hb]
  rw [e1] at hl hm ⊢
  have hbm : l[b] ∈ fireds l := List.mem_filter.2 ⟨List.getElem_mem hb, by simp [firedJ, openJ]; omega⟩
  obtain ⟨q, hq, he⟩ := List.getElem_of_mem ((firedS_perm l).mem_iff.2 hbm)
  have hs := List.pairwise_iff_getElem.1 (firedS_sorted h)
  have hkq : k ≤ q := by
    rcases Nat.lt_or_ge q k with h1 | h1
    · exfalso
      unfold lastF at hl
      rw [if_neg (by omega)] at hl
      simp only [List.getD, List.getElem?_eq_getElem (show k - 1 < (firedS l).length by omega), Option.getD_some] at hl
      by_cases h2 : q = k - 1
      · subst h2; rw [he] at hl; omega
      · have := hs q (k - 1) hq (by omega) (by omega)
        rw [he] at this
        omega
    · exact h1
  have hkl : k < (firedS l).length := by omega
  refine ⟨hkl, ?_⟩
  by_cases hqk : q = k
  · subst hqk
    simp [List.getD, hq, he]
  · exfalso
    have h3 := hs k q hkl hq (by omega)
    rw [he] at h3
    have h4 : (firedS l)[k] ∈ fireds l := (firedS_perm l).mem_iff.1 (List.getElem_mem hkl)
    obtain ⟨j, hj, hje⟩ := List.getElem_of_mem (List.mem_filter.1 h4).1
    have e2 : l.getD j default = l[j] := by simp [List.getD, hj]
    have h5 := hm j hj (by
      rw [e2, hje]
      unfold lastF
      split
      · exact fired_pos h h4
      · have := hs (k - 1) k (by omega) hkl (by omega)
        simpa [List.getD, show k - 1 < (firedS l).length by omega] using this)
    rw [e2, hje] at h5
    omega
theorem lastF_succ {l : List Jb} {k : Nat} : lastF l (k + 1) = ((firedS l).getD k default).f := by
  unfold lastF
  simp
end Go.Proofs.Ytokklkmibjpjnaa
namespace Go.Proofs.Ytokklkmibjpjnaa
set_option linter.unusedSimpArgs false
set_option linter.unusedVariables false
attribute [local go_sem] n_lt2 n_lt3 n_lt4 n_le2 n_le3
open Go.RowKit
theorem slices_of {w : World} {s n : Nat} {A : Option Addr} {zs : List Int} {ad : Addr} (h : Sl w s A n zs) (hA : A = some ad) : ∀ j u, (ints zs)[j]? = some u → w.cell? (ad.add j) = some u := by
  intro j u hu
  have hj : j < zs.length := by
    rcases Nat.lt_or_ge j zs.length with h1 | h1
    · exact h1
    · rw [List.getElem?_eq_none (by rw [ints_length]; exact h1)] at hu
      exact absurd hu (by simp)
  have hl := h.len
  have hn : 0 < n := by
    rcases Nat.eq_zero_or_pos n with h0 | h0
    · rw [h0, Nat.zero_mul] at hl; omega
    · exact h0
  obtain ⟨b, off, hb, _, hc⟩ := h.at_ hn
  rw [hA] at hb
  obtain rfl := Option.some.inj hb
  have hadd : (⟨b, off, none⟩ : Addr).add j = ⟨b, off + j, none⟩ := by unfold Addr.add; split <;> simp_all
  rw [hadd, hc j (by rw [← hl]; exact hj), ← hu]
  exact (ints_get zs j hj).symm
theorem grows_below {w w' : World} (h : w.grownBy w' none) : Below w.heap.size w w' := (Below.refl w.heap.size w).grown h (Nat.le_refl _) (fun q hq => by simp at hq)
theorem run_append_nothing {P : Program} (w : World) (t ty e : TypeId) (i : TypeInfo) (ht : P.underlying t = some (.slice e)) (hi : P.info? e = some i) (b : Addr) (A : Option Addr) (c : Nat) :
    (Builtin.append_ #[t, t] ty #[.slice (some b) 0 0, .slice A 0 c]).run P w = .ok (.slice (some b) 0 0) w := by
  cases A <;> simp [Builtin.append_, run_underlying ht, sizeOf, typeInfo, hi, Builtin.lenOf, Builtin.firstCells, loadCells, loadCellsFrom, storeCells]
/-- append of the elements of a slice (of none too) onto the fresh block g of no elements. -/
theorem wp_append_copy {P : Program} {o : Oper} {a : Act} {w : World} {K : Act → World → Prop} {Q : Exit → Act → World → Prop}
    (hg : o.guard = none) (s x : Operand) (t : TypeId) (hop : o.op = Op.call { callee := Callee.builtin Builtin.append, args := #[s, x], argTypes := #[t, t] })
    (e : TypeId) (i : TypeInfo) (z : Value) (size bytes : Nat) (h1 : P.underlying t = some (.slice e)) (h2 : P.info? e = some i) (h3 : i.zero = some z) (h4 : i.size = size) (h5 : i.bytes = bytes) (h6 : z.cells.size = size) (h7 : 0 < size)
    (g : Nat) (hs : a.eval s = .slice (some ⟨g, 0, none⟩) 0 0) (lo : Nat) (A : Option Addr) (m c : Nat) (zs : List Int) (hx : a.eval x = .slice A m c)
    (b0 : m ≤ maxLen) (b1 : m * bytes ≤ 140737488355328) (hblk : Blk w g e #[]) (hlo : lo ≤ g) (hS : Sl w size A m zs)
    (hK : ∀ g' c' w', Row w' lo e size (some ⟨g', 0, none⟩) m c' zs → Below w.heap.size w w' → g' < w'.heap.size → (g' = g ∨ w.heap.size ≤ g') → K (a.put o.dst (.slice (some ⟨g', 0, none⟩) m c')) w') :
    Oper.wp P o a w K Q := by
  rcases Nat.eq_zero_or_pos m with hm | hm
  · subst hm
    have hz : zs = [] := List.eq_nil_of_length_eq_zero (by simpa using hS.len)
    subst hz
    have hrun := run_append_nothing (P := P) w t o.type e i h1 h2 ⟨g, 0, none⟩ A c
    unfold Oper.wp
    simp [execOp, hop, resolve, invoke, builtin, hs, hx, hrun, Result.andThen]
    exact hK g 0 w ⟨by simp [ints], .inr ⟨g, 0, #[], rfl, hlo, hblk, Nat.le_refl _, Nat.zero_le _, by simp, by simp [ints]⟩⟩ (Below.refl _ _) hblk.lt (.inl rfl)
  · obtain ⟨b, off, rfl, hb, hc⟩ := hS.at_ hm
    have hl := hS.len
    have hw : Region.wanted o (yielded #[] a.tmps) = true := by simp [Region.wanted, hg]
    have hst := step_append_grows (P := P) (ops := #[]) (o := o) (a := a) (w := w) (K := K) (Q := Q) (E := True) hg s x t hop e i z size bytes h1 h2 h3 h4 h5 h6 h7 (some ⟨g, 0, none⟩) 0 0 [] hs (by simp) (by simp) (fun _ _ j u hu => by simp at hu) ⟨b, off, none⟩ m c (ints zs) hx (by rw [ints_length]; exact hl)
      (slices_of hS rfl) (ints_oneCell' zs) (by omega) (by omega) (by rw [Nat.zero_add]; exact b1) (fun v' w' hown hgr => by
        have hB := grows_below hgr
        have hlw := hblk.lt
        rcases hown.2 with ⟨_, h0⟩ | ⟨g', c', cur, rfl, hge, hg', hrest⟩
        · omega
        · rw [Nat.zero_add] at hown ⊢
          have hR : Row w' w.heap.size e size (some ⟨g', 0, none⟩) m c' zs := by
            rw [List.nil_append] at hown
            exact hown
          exact hK g' c' w' (hR.mono (by omega)) hB (hR.lt _ rfl) (.inr hge))
    rw [if_pos hw] at hst
    exact hst
theorem step_append_copy {P : Program} {ops : Array Oper} {o : Oper} {a : Act} {w : World} {K : Act → World → Prop} {Q : Exit → Act → World → Prop} {E : Prop}
    (hg : o.guard = none) (s x : Operand) (t : TypeId) (hop : o.op = Op.call { callee := Callee.builtin Builtin.append, args := #[s, x], argTypes := #[t, t] })
    (e : TypeId) (i : TypeInfo) (z : Value) (size bytes : Nat) (h1 : P.underlying t = some (.slice e)) (h2 : P.info? e = some i) (h3 : i.zero = some z) (h4 : i.size = size) (h5 : i.bytes = bytes) (h6 : z.cells.size = size) (h7 : 0 < size)
    (g : Nat) (hs : a.eval s = .slice (some ⟨g, 0, none⟩) 0 0) (lo : Nat) (A : Option Addr) (m c : Nat) (zs : List Int) (hx : a.eval x = .slice A m c)
    (b1 : m ≤ 1000) (b2 : bytes ≤ 1000) (hblk : Blk w g e #[]) (hlo : lo ≤ g) (hS : Sl w size A m zs)
    (hK : ∀ g' c' w', Row w' lo e size (some ⟨g', 0, none⟩) m c' zs → Below w.heap.size w w' → g' < w'.heap.size → (g' = g ∨ w.heap.size ≤ g') → K (a.put o.dst (.slice (some ⟨g', 0, none⟩) m c')) w') :
    if Region.wanted o (yielded ops a.tmps) = true then Oper.wp P o a w K Q else E := by
  rw [if_pos (by simp [Region.wanted, hg])]
  exact wp_append_copy hg s x t hop e i z size bytes h1 h2 h3 h4 h5 h6 h7 g hs lo A m c zs hx (by unfold maxLen; omega) (by have := Nat.mul_le_mul b1 b2; omega) hblk hlo hS hK
theorem wpList_append_copy {P : Program} {ops : Array Oper} {rest : List Oper} {o : Oper} {a : Act} {w : World} {Q : Exit → Act → World → Prop}
    (hg : o.guard = none) (s x : Operand) (t : TypeId) (hop : o.op = Op.call { callee := Callee.builtin Builtin.append, args := #[s, x], argTypes := #[t, t] })
    (e : TypeId) (z : Value) (size bytes : Nat) (h1 : P.underlying t = some (.slice e)) (hinfo : (P.info? e).map (fun i => (i.zero, i.size, i.bytes)) = some (some z, size, bytes)) (h6 : z.cells.size = size) (h7 : 0 < size)
    (g : Nat) (hs : a.eval s = .slice (some ⟨g, 0, none⟩) 0 0) (lo : Nat) (A : Option Addr) (m c : Nat) (zs : List Int) (hx : a.eval x = .slice A m c)
    (b0 : m ≤ maxLen) (b1 : m * bytes ≤ 140737488355328) (hblk : Blk w g e #[]) (hlo : lo ≤ g) (hS : Sl w size A m zs)
    (hK : ∀ g' c' w', Row w' lo e size (some ⟨g', 0, none⟩) m c' zs → Below w.heap.size w w' → g' < w'.heap.size → (g' = g ∨ w.heap.size ≤ g') → wpList P ops Q rest (a.put o.dst (.slice (some ⟨g', 0, none⟩) m c')) w') :
    wpList P ops Q (o :: rest) a w := by
  obtain ⟨i, hi, hiz, his, hib⟩ : ∃ i, P.info? e = some i ∧ i.zero = some z ∧ i.size = size ∧ i.bytes = bytes := by
    cases hq : P.info? e with
    | none => rw [hq] at hinfo; simp at hinfo
    | some i =>
      rw [hq] at hinfo
      simp only [Option.map_some, Option.some.injEq, Prod.mk.injEq] at hinfo
      exact ⟨i, rfl, hinfo.1, hinfo.2.1, hinfo.2.2⟩
  exact wpList_plain hg fun _ hK2 => wp_append_copy hg s x t hop e i z size bytes h1 hi hiz his hib h6 h7 g hs lo A m c zs hx b0 b1 hblk hlo hS (fun g' c' w' r1 r2 r3 r4 => hK2 _ _ (hK g' c' w' r1 r2 r3 r4))
end Go.Proofs.Ytokklkmibjpjnaa
namespace Go.Proofs.Ytokklkmibjpjnaa
set_option linter.unusedSimpArgs false
set_option linter.unusedVariables false
attribute [local go_sem] n_lt2 n_lt3 n_lt4 n_le2 n_le3
open Go.RowKit
/-- What OpenJobs hands back. -/
def openR (l : List Jb) : List Du := if jobsB l = true then openL l else []
theorem openR_len (l : List Jb) : (openR l).length ≤ 8 := by
  unfold openR
  split
  · rename_i h
    exact Nat.le_trans (openL_len l) (jobsB_all h).1
  · exact Nat.zero_le _
theorem cell_two_at' (w : World) (x0 x1 : Value) (t : TypeId) (g : Nat) (hg : g = w.heap.size) : ∀ j u, [x0, x1][j]? = some u → (w.alloc (.cells #[x0, x1] t)).cell? ((⟨g, 0, none⟩ : Addr).add j) = some u := by
  subst hg
  intro j u hj
  match j, hj with
  | 0, hj => simp at hj; subst hj; simp [Addr.add]
  | 1, hj => simp at hj; subst hj; simp [Addr.add]
theorem held_al {W v : World} (h : ∀ b o, b < W.heap.size → v.cell? ⟨b, o, none⟩ = W.cell? ⟨b, o, none⟩) (hz : W.heap.size ≤ v.heap.size) (x : Obj) : ∀ b o, b < W.heap.size → (v.alloc x).cell? ⟨b, o, none⟩ = W.cell? ⟨b, o, none⟩ :=
  fun b o hb => (((Below.refl v.heap.size v).alloc (Nat.le_refl _) x).cell (p := ⟨b, o, none⟩) (Nat.lt_of_lt_of_le hb hz)).trans (h b o hb)
theorem held_dr {W v : World} (h : ∀ b o, b < W.heap.size → v.cell? ⟨b, o, none⟩ = W.cell? ⟨b, o, none⟩) : ∀ b o, b < W.heap.size → v.drew.cell? ⟨b, o, none⟩ = W.cell? ⟨b, o, none⟩ := h
theorem info_Due : (Try.prog.info? 113).map (fun i => (i.zero, i.size, i.bytes)) = some (some (.agg #[.int .i64 0, .int .i64 0]), 2, 16) := by kernel_rfl
theorem btr {lo : Nat} {w a b : World} (h1 : Below lo w a) (h2 : Below lo a b) : Below lo w b :=
  ⟨h2.os.trans h1.os, h2.tape.trans h1.tape, h2.output.trans h1.output, Nat.le_trans h1.size h2.size, fun k hk => (h2.block k hk).trans (h1.block k hk)⟩
attribute [local go_sem] Ext.cell Ext.frozen
theorem sl_take {w : World} {s n : Nat} {A : Option Addr} {zs : List Int} (h : Sl w s A n zs) (k : Nat) (hk : k ≤ n) : Sl w s A k (zs.take (k * s)) := by
  have hl := h.len
  have hm : k * s ≤ n * s := Nat.mul_le_mul_right s hk
  refine ⟨by simp; omega, fun hk0 => ?_⟩
  obtain ⟨b, off, hA, hb, hc⟩ := h.2 (by omega)
  refine ⟨b, off, hA, hb, fun j hj => ?_⟩
  rw [hc j (by omega)]
  congr 2
  simp [List.getD, List.getElem?_take, hj]
theorem sl_drop {w : World} {s n b off : Nat} {zs : List Int} (h : Sl w s (some ⟨b, off, none⟩) n zs) (k : Nat) (hk : k ≤ n) : Sl w s (some ⟨b, off + k * s, none⟩) (n - k) (zs.drop (k * s)) := by
  have hl := h.len
  refine ⟨by rw [List.length_drop, hl, Nat.sub_mul], fun hk0 => ?_⟩
  obtain ⟨b', off', hA, hb, hc⟩ := h.2 (by omega)
  injection hA with hA
  injection hA with h1 h2
  subst h1 h2
  refine ⟨b, off + k * s, rfl, hb, fun j hj => ?_⟩
  have h5 : k * s + j < n * s := by
    rw [Nat.sub_mul] at hj
    omega
  have h3 := hc (k * s + j) h5
  rw [show off + k * s + j = off + (k * s + j) by omega, h3]
  congr 2
  simp [List.getD, List.getElem?_drop]
theorem DU_take (l : List Du) (k : Nat) : DU (l.take k) = (DU l).take (k * 2) := by
  induction l generalizing k with
  | nil => simp [DU]
  | cons a l ih =>
    cases k with
    | zero => simp [DU]
    | succ k =>
      have := ih k
      unfold DU at this ⊢
      simp only [List.take_succ_cons, List.flatMap_cons, this]
      rw [show (k + 1) * 2 = k * 2 + 1 + 1 by omega]
      rfl
theorem DU_drop (l : List Du) (k : Nat) : DU (l.drop k) = (DU l).drop (k * 2) := by
  induction l generalizing k with
  | nil => simp [DU]
  | cons a l ih =>
    cases k with
    | zero => simp [DU]
    | succ k =>
      have := ih k
      unfold DU at this ⊢
      simp only [List.drop_succ_cons, List.flatMap_cons, this]
      rw [show (k + 1) * 2 = k * 2 + 1 + 1 by omega]
      rfl
theorem DU_cons (x : Du) (l : List Du) : DU (x :: l) = [x.i, x.d] ++ DU l := rfl
theorem heldb_dr {W v : World} {b : Nat} (h : ∀ o, v.cell? ⟨b, o, none⟩ = W.cell? ⟨b, o, none⟩) : ∀ o, v.drew.cell? ⟨b, o, none⟩ = W.cell? ⟨b, o, none⟩ := h
theorem heldb_al {W v : World} {b : Nat} (h : ∀ o, v.cell? ⟨b, o, none⟩ = W.cell? ⟨b, o, none⟩) (hb : b < v.heap.size) (x : Obj) : ∀ o, (v.alloc x).cell? ⟨b, o, none⟩ = W.cell? ⟨b, o, none⟩ :=
  fun o => (((Below.refl v.heap.size v).alloc (Nat.le_refl _) x).cell (p := ⟨b, o, none⟩) hb).trans (h o)
theorem heldb_wr {W v v' : World} {b g : Nat} (hw : Wrote v v' (some ⟨g, 0, none⟩)) (h : ∀ o, v.cell? ⟨b, o, none⟩ = W.cell? ⟨b, o, none⟩) (hb : b < v.heap.size) (hne : b ≠ g) : ∀ o, v'.cell? ⟨b, o, none⟩ = W.cell? ⟨b, o, none⟩ :=
  fun o => (World.cell?_of_block (World.grownBy.block hw b hb (by simpa using hne))).trans (h o)
/-- append onto a row of the call's own, as one step of a region that draws. -/
theorem step_append_rowS {P : Program} {ops : Array Oper} {o : Oper} {a : Act} {w : World} {K : Act → World → Prop} {Q : Exit → Act → World → Prop} {E : Prop}
    (hg : o.guard = none) (s x : Operand) (t : TypeId) (hop : o.op = Op.call { callee := Callee.builtin Builtin.append, args := #[s, x], argTypes := #[t, t] })
    (e : TypeId) (z : Value) (size bytes : Nat) (h1 : P.underlying t = some (.slice e)) (hinfo : (P.info? e).map (fun i => (i.zero, i.size, i.bytes)) = some (some z, size, bytes)) (h6 : z.cells.size = size) (h7 : 0 < size)
    (lo g n cap : Nat) (xs : List Int) (hs : a.eval s = .slice (some ⟨g, 0, none⟩) n cap) (hR : Row w lo e size (some ⟨g, 0, none⟩) n cap xs)
    (ad : Addr) (m c : Nat) (news : List Int) (hx : a.eval x = .slice (some ad) m c) (hl : news.length = m * size) (hnews : ∀ j u, (ints news)[j]? = some u → w.cell? (ad.add j) = some u) (hm : 0 < m)
    (b0 : n + m ≤ maxLen) (b1 : (n + m) * bytes ≤ 140737488355328) (hlo : lo ≤ w.heap.size)
    (hK : ∀ g' c' w', Row w' lo e size (some ⟨g', 0, none⟩) (n + m) c' (xs ++ news) → Wrote w w' (some ⟨g, 0, none⟩) → (g' = g ∨ g' = w.heap.size) → K (a.put o.dst (.slice (some ⟨g', 0, none⟩) (n + m) c')) w') :
    if Region.wanted o (yielded ops a.tmps) = true then Oper.wp P o a w K Q else E := by
  obtain ⟨i, hi, hiz, his, hib⟩ : ∃ i, P.info? e = some i ∧ i.zero = some z ∧ i.size = size ∧ i.bytes = bytes := by
    cases hq : P.info? e with
    | none => rw [hq] at hinfo; simp at hinfo
    | some i =>
      rw [hq] at hinfo
      simp only [Option.map_some, Option.some.injEq, Prod.mk.injEq] at hinfo
      exact ⟨i, rfl, hinfo.1, hinfo.2.1, hinfo.2.2⟩
  refine step_append_lies _ hg s x t hop lo e i z size bytes h1 hi hiz his hib h6 h7 _ n (ints xs) hs hR ad m c (ints news) hx (by rw [ints_length]; exact hl) hnews (ints_oneCell' news) hm b0 b1 hlo w.heap.size rfl ?_
  intro g' c' w' hown hgr hat _
  rw [← ints_append] at hown
  exact hK g' c' w' hown hgr (by
    rcases hat with h | h
    · left; simpa [Value.ownBlock] using h.symm
    · right; exact h)
set_option maxRecDepth 100000 in
set_option maxHeartbeats 8000000 in
theorem specOpenJobs_any (A : Option Addr) (n cap : Nat) (l : List Jb) (w : World) (hS : Sl w 5 A n (JB l)) (hl : l.length = n) (hn : n ≤ maxLen) :
    Calls Try.prog 78 #[.slice A n cap] w (RetRow w 113 2 (openR l).length (DU (openR l))) := by
  have HS := Lib.hid (fun (v : World) (hB : Below w.heap.size w v) => hS.below hB)
  have c1 := fun (v : World) (hv : Sl v 5 A n (JB l)) => specJobsOk_any A n cap l v hv hl hn
  clear hS
  cases hb : jobsB l with
  | false =>
    have hr : openR l = [] := by unfold openR; rw [hb]; rfl
    rw [hr]
    rw [hb] at c1
    have C1 := Lib.hid c1
    clear c1
    go_enter Try.func78, Try.ntmps78
    go_wp2_with fail
    refine calls_named ?_
    rintro v hv
    have bv : Below w.heap.size w v := by rw [hv]; exact (Below.refl _ _).alloc (Nat.le_refl _) _
    have R0 : Row v w.heap.size 113 2 (some ⟨w.heap.size, 0, none⟩) 0 0 [] := by rw [hv]; exact row0p (Blk.new w _ _) (Nat.le_refl _)
    clear hv
    refine (C1.out v (HS.out v bv)).mono ?_
    rintro e w1 ⟨rfl, b1⟩
    go_wp2
    go_ret
    exact RetRow.mk (R0.below b1) (bthen bv b1)
  | true =>
    have hr : openR l = openL l := by unfold openR; rw [hb]; rfl
    rw [hr]
    rw [hb] at c1
    have C1 := Lib.hid c1
    have h8 := (jobsB_all hb).1
    have hn8 : n ≤ 8 := by omega
    have HB := Lib.hid (jobsB_all hb).2
    have hL := Lib.hid hl
    clear c1 hr hb h8 hl
    go_enter Try.func78, Try.ntmps78
    go_wp2_with fail
    refine calls_named ?_
    rintro v hv
    have bv : Below w.heap.size w v := by rw [hv]; exact (Below.refl _ _).alloc (Nat.le_refl _) _
    have R0 : Row v w.heap.size 113 2 (some ⟨w.heap.size, 0, none⟩) 0 0 [] := by rw [hv]; exact row0p (Blk.new w _ _) (Nat.le_refl _)
    clear hv
    refine (C1.out v (HS.out v bv)).mono ?_
    rintro e w1 ⟨rfl, b1⟩
    have R1 := R0.below b1
    have f1 := bthen bv b1
    clear R0 bv b1
    go_wp2
    go_loopw [3, 4] (fun o iv wr => ∃ (j g0 c0 : Nat) (y : List Du), j ≤ n ∧ iv = .int .i64 (j : Nat) ∧ o = .slice (some ⟨g0, 0, none⟩) y.length c0 ∧ Row wr w.heap.size 113 2 (some ⟨g0, 0, none⟩) y.length c0 (DU y) ∧ Hid (y = openTo l j) ∧ Below w.heap.size w wr) (fun _ iv _ => n - (intOf iv).toNat)
    case atStart => exact ⟨0, _, _, [], Nat.zero_le _, rfl, rfl, R1, Lib.hid rfl, f1⟩
    case round =>
      clear R1 f1
      obtain ⟨j, g0, c0, y, hj, rfl, rfl, R, hy, hbl⟩ := hrel
      have hy8 : y.length ≤ 8 := by have := openTo_len l j; rw [← hy.out] at this; omega
      by_cases hjn : j < n
      · have hjn' : (j : Int) < (n : Int) := by omega
        obtain ⟨b0, off, rfl, hb0, hcell⟩ := sl_jobs (HS.out w (Below.refl _ _)) (by omega)
        obtain ⟨h0, h1, _, _, h4⟩ := hcell j hjn
        clear hcell
        rw [← hbl.cell (by exact hb0)] at h0 h1 h4
        have hok := jobAtB_ok (HB.out j (by rw [hL.out]; exact hjn))
        have hbr : b0 < wr.heap.size := Nat.lt_of_lt_of_le hb0 hbl.size
        have hop0 : openTo l (j + 1) = if openJ (l.getD j default) = true then insDu (openTo l j) (duOf (l.getD j default)) else openTo l j := rfl
        have HOP := Lib.hid hop0
        clear hop0
        generalize l.getD j default = pj at h0 h1 h4 hok HOP
        obtain ⟨xi, xd, xk, xv, xf⟩ := pj
        simp only at h0 h1 h4
        have hf0 : 0 ≤ xf := by unfold jobOkB jobB at hok; simp only [Bool.and_eq_true, inB_iff] at hok; omega
        clear hok
        by_cases hxf : 0 < xf
        · have hy2 := Lib.hid (show y = openTo l (j + 1) by rw [HOP.out, if_neg (by unfold openJ; simp; omega)]; exact hy.out)
          clear hf0 hy
          go_wp2
          exact ⟨⟨j + 1, g0, c0, y, by omega, by go_num, rfl, R, hy2, hbl⟩, by simp [intOf]; omega⟩
        · have hxz : xf = 0 := by omega
          have hop := Lib.hid (show openTo l (j + 1) = insDu (openTo l j) ⟨xi, xd⟩ by rw [HOP.out, if_pos (by unfold openJ; simp [hxz])]; rfl)
          have HC0 := Lib.hid (And.intro ((hbl.cell (p := ⟨b0, off + j * 5, none⟩) hb0).symm.trans h0) ((hbl.cell (p := ⟨b0, off + j * 5 + 1, none⟩) hb0).symm.trans h1))
          subst hxz
          clear hf0 hxf
          go_wp2
          clear h4 h0 h1
          go_loopw [5] (fun kv wq => ∃ k : Nat, k ≤ y.length ∧ kv = .int .i64 (k : Nat) ∧ Hid (kIns y xd = kInsF y xd k) ∧ Row wq w.heap.size 113 2 (some ⟨g0, 0, none⟩) y.length c0 (DU y) ∧ Below w.heap.size w wq) (fun kv _ => (intOf kv).toNat)
          case atStart => exact ⟨y.length, Nat.le_refl _, rfl, Lib.hid rfl, R, hbl⟩
          case round =>
            clear R hbl hbr
            obtain ⟨k, hk, rfl, hki, R, hbl⟩ := hrel
            have hbr : b0 < wr.heap.size := Nat.lt_of_lt_of_le hb0 hbl.size
            have h0 : wr.cell? ⟨b0, off + j * 5, none⟩ = some (.int .i64 xi) := (hbl.cell (p := ⟨b0, off + j * 5, none⟩) hb0).trans HC0.out.1
            have h1 : wr.cell? ⟨b0, off + j * 5 + 1, none⟩ = some (.int .i64 xd) := (hbl.cell (p := ⟨b0, off + j * 5 + 1, none⟩) hb0).trans HC0.out.2
            rcases Nat.eq_zero_or_pos k with hk0 | hk0
            · subst hk0
              have hins := Lib.hid (show kIns y xd = 0 from hki.out)
              clear hki
              go_wp2
              ((refine wp_region_ext (by kernel_rfl) (by kernel_rfl) ?_); (repeat (any_goals (first | go_big_quiet_step (fail) | (refine wpQuiet_step (fun K hK => ?_); go_simp; split <;> (refine hK _ ?_; clear hK K)) | quiet_step (fail)))); (all_goals (refine wpQuiet_nil ?_; rintro _ ⟨z, rfl⟩; have hb' := z.h; generalize z.w = w1 at hb' ⊢; clear z; (first | (have hb2 := bstep hb' hb hb.size; clear hb' hcb hfb hz1 hz2 hz3 hz4 hb; have hb := hb2; clear hb2) | (have hb := hb'; clear hb')); obtain ⟨hcb, hfb, hz1, hz2, hz3, hz4⟩ := bcell hb; (try simp only [World.size_alloc, World.size_setCell, World.size_drew, Nat.lt_add_one_iff, Nat.add_assoc, Nat.reduceAdd] at hz1 hz2 hz3 hz4))))
              all_goals
                replace R := R.below hb
                replace hbl := bthen hbl hb
                replace h0 : w1.cell? ⟨b0, off + j * 5, none⟩ = some (.int .i64 xi) := (hb.cell (p := ⟨b0, off + j * 5, none⟩) hbr).trans h0
                replace h1 : w1.cell? ⟨b0, off + j * 5 + 1, none⟩ = some (.int .i64 xd) := (hb.cell (p := ⟨b0, off + j * 5 + 1, none⟩) hbr).trans h1
                replace hbr := Nat.lt_of_lt_of_le hbr hb.size
                clear hcb hfb hz1 hz2 hz3 hz4
                have hkl := hk
                have hci := R.cap_le
                have hkc : (0 : Int) ≤ (c0 : Int) := by omega
                have hkli : (0 : Int) ≤ (y.length : Int) := by omega
                have hk0i : (0 : Int) ≤ (0 : Int) := by omega
                have hz := hbl.size
                have hg0 := R.lt _ rfl
                have HRR := Lib.hid R
                have HBL := Lib.hid hbl
                have hSt := Lib.hid (sl_take R.sl 0 hk)
                clear R hbl
                go_wp2_with (at_builtin; refine wpList_append_copy rfl _ _ 110 rfl 113 (.agg #[.int .i64 0, .int .i64 0]) 2 16 Try.underlying110 info_Due (by first | kernel_rfl | simp [Value.cells]) (by decide) w1.heap.size rfl w1.heap.size (some ⟨g0, 0, none⟩) 0 c0 ((DU y).take (0 * 2)) rfl (by unfold maxLen; omega) (by omega) (Blk.new_at _ _ _ _ rfl) (Nat.le_refl _) (hSt.out.alloc _) ?_; intro gm cm wm Rm bm lm om)
                have bm2 : Below w1.heap.size w1 wm := btr ((Below.refl _ _).alloc (Nat.le_refl _) _) (bm.mono (by simp))
                have RY := (HRR.out.alloc (.cells #[] 113)).below bm
                have hgm : w1.heap.size ≤ gm := Rm.ge _ rfl
                have HHM := Lib.hid (btr HBL.out (bm2.mono hz))
                clear bm om
                have hm0 : wm.cell? ⟨b0, off + j * 5, none⟩ = some (.int .i64 xi) := (bm2.cell (p := ⟨b0, off + j * 5, none⟩) hbr).trans h0
                have hm1 : wm.cell? ⟨b0, off + j * 5 + 1, none⟩ = some (.int .i64 xd) := (bm2.cell (p := ⟨b0, off + j * 5 + 1, none⟩) hbr).trans h1
                have hbm : b0 < wm.heap.size := Nat.lt_of_lt_of_le hbr bm2.size
                have hbg : b0 ≠ gm := by omega
                clear h0 h1
                have hS0 : ∀ o, wm.cell? ⟨b0, o, none⟩ = wm.cell? ⟨b0, o, none⟩ := fun _ => rfl
                have HRm := Lib.hid Rm
                go_region_held_law (fun w' => ∀ o, w'.cell? ⟨b0, o, none⟩ = wm.cell? ⟨b0, o, none⟩) (repeat' (first | assumption | with_reducible exact hS0 | with_reducible refine heldb_dr ?_ | with_reducible refine heldb_al ?_ ?_ _ | with_reducible refine heldb_wr (by assumption) ?_ ?_ ?_ | (simp; done) | (simp; omega)))
                  (first | (refine step_append_rowS rfl _ _ 110 rfl 113 (.agg #[.int .i64 0, .int .i64 0]) 2 16 Try.underlying110 info_Due (by first | kernel_rfl | simp [Value.cells]) (by decide) w1.heap.size gm 0 cm ((DU y).take (0 * 2)) rfl ((HRm.out.drew).alloc _) ⟨wm.heap.size, 0, none⟩ 1 1 [xi, xd] rfl rfl (cell_two_at' _ _ _ _ _ rfl) (by decide) (by unfold maxLen; omega) (by omega) (by have := bm2.size; simp; omega) ?_; intro gn cn wn Rn Wn Ln))
                have bn : Below w1.heap.size w1 wn := Wn.below (btr bm2 (((Below.refl w1.heap.size wm).drew).alloc bm2.size (.cells #[.int .i64 xi, .int .i64 xd] 113))) (by have := bm2.size; simp; omega) (fun x hx => by obtain rfl := Option.some.inj hx; exact hgm)
                have RN := ((RY.drew).alloc (.cells #[.int .i64 xi, .int .i64 xd] 113)).wrote Wn (fun a b ha hb => by injection ha with ha; injection hb with hb; subst ha; subst hb; show g0 ≠ gm; omega)
                clear RY Rm HRm Wn hm0 hm1
                have hzn := bn.size
                have hnews0 := slices_of (sl_drop RN.sl 0 hk) rfl
                simp only [Nat.zero_add] at hnews0
                have hnews := Lib.hid hnews0
                clear hnews0
                have hnewl : ((DU y).drop (0 * 2)).length = (y.length - 0) * 2 := by rw [List.length_drop, DU_len]; omega
                have HF := Lib.hid (show (DU y).take (0 * 2) ++ [xi, xd] ++ (DU y).drop (0 * 2) = DU (insDu y ⟨xi, xd⟩) by
                  have e := hins.out
                  unfold insDu
                  show _ = DU (y.take (kIns y xd) ++ _ :: y.drop (kIns y xd))
                  rw [e, DU_append, DU_cons, DU_take, DU_drop, List.append_assoc]
                  (try rfl))
                have HJ := Lib.hid (show insDu y ⟨xi, xd⟩ = openTo l (j + 1) by rw [hop.out, ← hy.out])
                by_cases hck : c0 = 0
                · have HLK := Lib.hid (show y.length - 0 = 0 by omega)
                  go_wp2_with (at_builtin; refine wpList_append_row2 rfl _ _ 110 rfl 113 (.agg #[.int .i64 0, .int .i64 0]) 2 16 Try.underlying110 info_Due (by first | kernel_rfl | simp [Value.cells]) (by decide) w1.heap.size (some ⟨gn, 0, none⟩) (0 + 1) cn ((DU y).take (0 * 2) ++ [xi, xd]) rfl Rn ⟨g0, 0, none⟩ (y.length - 0) _ ((DU y).drop (0 * 2)) rfl hnewl (fun q u hq => by have hx : (DU y).drop (0 * 2) = [] := List.eq_nil_of_length_eq_zero (by rw [hnewl, HLK.out]); rw [hx] at hq; simp [ints] at hq) (by unfold maxLen; omega) (by omega) hzn ?_; intro A5 c5 w5 R5 B5 W5 L5; obtain ⟨g5, cs5, rfl, _⟩ := R5.blk (by omega))
                  rw [HF.out] at R5
                  have hln : 0 + 1 + (y.length - 0) = (insDu y ⟨xi, xd⟩).length := by rw [insDu_len]; omega
                  rw [hln] at R5
                  first
                    | rw [hln]
                    | rw [show 1 + y.length = (insDu y ⟨xi, xd⟩).length by rw [insDu_len]; omega]
                  exact ⟨⟨j + 1, g5, c5, _, by omega, by go_num, rfl, R5.mono hz, HJ, btr HBL.out ((btr bn B5).mono hz)⟩, by simp [intOf]; omega⟩
                · go_wp2_with (at_builtin; refine wpList_append_row2 rfl _ _ 110 rfl 113 (.agg #[.int .i64 0, .int .i64 0]) 2 16 Try.underlying110 info_Due (by first | kernel_rfl | simp [Value.cells]) (by decide) w1.heap.size (some ⟨gn, 0, none⟩) (0 + 1) cn ((DU y).take (0 * 2) ++ [xi, xd]) rfl Rn ⟨g0, 0 * 2, none⟩ (y.length - 0) _ ((DU y).drop (0 * 2)) rfl hnewl hnews.out (by unfold maxLen; omega) (by omega) hzn ?_; intro A5 c5 w5 R5 B5 W5 L5; obtain ⟨g5, cs5, rfl, _⟩ := R5.blk (by omega))
                  rw [HF.out] at R5
                  have hln : 0 + 1 + (y.length - 0) = (insDu y ⟨xi, xd⟩).length := by rw [insDu_len]; omega
                  rw [hln] at R5
                  first
                    | rw [hln]
                    | rw [show 1 + y.length = (insDu y ⟨xi, xd⟩).length by rw [insDu_len]; omega]
                  exact ⟨⟨j + 1, g5, c5, _, by omega, by go_num, rfl, R5.mono hz, HJ, btr HBL.out ((btr bn B5).mono hz)⟩, by simp [intOf]; omega⟩
            · obtain ⟨kp, hkp⟩ : ∃ kp : Nat, k = kp + 1 := ⟨k - 1, by omega⟩
              have HKP := Lib.hid hkp
              have hkpl : kp < y.length := by omega
              have hw : IntKind.i64.wrap ((k : Int) - 1) = (kp : Int) := by rw [IntKind.wrap_i64]; omega
              have hkp0 : (0 : Int) ≤ (kp : Int) := by omega
              have hkpi : (kp : Int) < (y.length : Int) := by omega
              have hk0' : (0 : Int) < (k : Int) := by omega
              obtain ⟨b9, off9, hA9, hb9, hc9⟩ := sl_dues R.sl (by omega)
              injection hA9 with hA9
              injection hA9 with hA91 hA92
              subst hA91 hA92
              have hd := (hc9 kp hkpl).2
              simp only [Nat.zero_add] at hd
              clear hc9
              have hunf : kInsF y xd (kp + 1) = if xd < (y.getD kp default).d then kInsF y xd kp else kp + 1 := rfl
              obtain ⟨yd, hyd⟩ : ∃ x, (y.getD kp default).d = x := ⟨_, rfl⟩
              rw [hyd] at hd hunf
              have HUN := Lib.hid hunf
              clear hkp hyd hunf
              by_cases hlt : xd < yd
              · have hki2 := Lib.hid (show kIns y xd = kInsF y xd kp by rw [hki.out, HKP.out, HUN.out, if_pos hlt])
                clear hki
                go_wp2
                ((refine wp_region_ext (by kernel_rfl) (by kernel_rfl) ?_); (repeat (any_goals (first | go_big_quiet_step (fail) | (refine wpQuiet_step (fun K hK => ?_); go_simp; split <;> (refine hK _ ?_; clear hK K)) | quiet_step (fail)))); (all_goals (refine wpQuiet_nil ?_; rintro _ ⟨z, rfl⟩; have hb' := z.h; generalize z.w = w1 at hb' ⊢; clear z; (first | (have hb2 := bstep hb' hb hb.size; clear hb' hcb hfb hz1 hz2 hz3 hz4 hb; have hb := hb2; clear hb2) | (have hb := hb'; clear hb')); obtain ⟨hcb, hfb, hz1, hz2, hz3, hz4⟩ := bcell hb; (try simp only [World.size_alloc, World.size_setCell, World.size_drew, Nat.lt_add_one_iff, Nat.add_assoc, Nat.reduceAdd] at hz1 hz2 hz3 hz4))))
                all_goals go_wp2
                all_goals exact ⟨⟨kp, by omega, by go_num, hki2, R.below hb, bthen hbl hb⟩, by have := HKP.out; simp [intOf]; omega⟩
              · have hins := Lib.hid (show kIns y xd = k by rw [hki.out, HKP.out, HUN.out, if_neg hlt])
                have hdf : decide (xd < yd) = false := decide_eq_false hlt
                clear hki
                go_wp2
                ((refine wp_region_ext (by kernel_rfl) (by kernel_rfl) ?_); (repeat (any_goals (first | go_big_quiet_step (fail) | (refine wpQuiet_step (fun K hK => ?_); go_simp; split <;> (refine hK _ ?_; clear hK K)) | quiet_step (fail)))); (all_goals (refine wpQuiet_nil ?_; rintro _ ⟨z, rfl⟩; have hb' := z.h; generalize z.w = w1 at hb' ⊢; clear z; (first | (have hb2 := bstep hb' hb hb.size; clear hb' hcb hfb hz1 hz2 hz3 hz4 hb; have hb := hb2; clear hb2) | (have hb := hb'; clear hb')); obtain ⟨hcb, hfb, hz1, hz2, hz3, hz4⟩ := bcell hb; (try simp only [World.size_alloc, World.size_setCell, World.size_drew, Nat.lt_add_one_iff, Nat.add_assoc, Nat.reduceAdd] at hz1 hz2 hz3 hz4))))
                all_goals
                  replace R := R.below hb
                  replace hbl := bthen hbl hb
                  replace h0 : w1.cell? ⟨b0, off + j * 5, none⟩ = some (.int .i64 xi) := (hb.cell (p := ⟨b0, off + j * 5, none⟩) hbr).trans h0
                  replace h1 : w1.cell? ⟨b0, off + j * 5 + 1, none⟩ = some (.int .i64 xd) := (hb.cell (p := ⟨b0, off + j * 5 + 1, none⟩) hbr).trans h1
                  replace hbr := Nat.lt_of_lt_of_le hbr hb.size
                  clear hcb hfb hz1 hz2 hz3 hz4 hd
                  have hkl := hk
                  have hci := R.cap_le
                  have hkc : (k : Int) ≤ (c0 : Int) := by omega
                  have hkli : (k : Int) ≤ (y.length : Int) := by omega
                  have hk0i : (0 : Int) ≤ (k : Int) := by omega
                  have hz := hbl.size
                  have hg0 := R.lt _ rfl
                  have HRR := Lib.hid R
                  have HBL := Lib.hid hbl
                  have hSt := Lib.hid (sl_take R.sl k hk)
                  clear R hbl
                  go_wp2_with (at_builtin; refine wpList_append_copy rfl _ _ 110 rfl 113 (.agg #[.int .i64 0, .int .i64 0]) 2 16 Try.underlying110 info_Due (by first | kernel_rfl | simp [Value.cells]) (by decide) w1.heap.size rfl w1.heap.size (some ⟨g0, 0, none⟩) k c0 ((DU y).take (k * 2)) rfl (by unfold maxLen; omega) (by omega) (Blk.new_at _ _ _ _ rfl) (Nat.le_refl _) (hSt.out.alloc _) ?_; intro gm cm wm Rm bm lm om)
                  have bm2 : Below w1.heap.size w1 wm := btr ((Below.refl _ _).alloc (Nat.le_refl _) _) (bm.mono (by simp))
                  have RY := (HRR.out.alloc (.cells #[] 113)).below bm
                  have hgm : w1.heap.size ≤ gm := Rm.ge _ rfl
                  have HHM := Lib.hid (btr HBL.out (bm2.mono hz))
                  clear bm om
                  have hm0 : wm.cell? ⟨b0, off + j * 5, none⟩ = some (.int .i64 xi) := (bm2.cell (p := ⟨b0, off + j * 5, none⟩) hbr).trans h0
                  have hm1 : wm.cell? ⟨b0, off + j * 5 + 1, none⟩ = some (.int .i64 xd) := (bm2.cell (p := ⟨b0, off + j * 5 + 1, none⟩) hbr).trans h1
                  have hbm : b0 < wm.heap.size := Nat.lt_of_lt_of_le hbr bm2.size
                  have hbg : b0 ≠ gm := by omega
                  clear h0 h1
                  have hS0 : ∀ o, wm.cell? ⟨b0, o, none⟩ = wm.cell? ⟨b0, o, none⟩ := fun _ => rfl
                  have HRm := Lib.hid Rm
                  go_region_held_law (fun w' => ∀ o, w'.cell? ⟨b0, o, none⟩ = wm.cell? ⟨b0, o, none⟩) (repeat' (first | assumption | with_reducible exact hS0 | with_reducible refine heldb_dr ?_ | with_reducible refine heldb_al ?_ ?_ _ | with_reducible refine heldb_wr (by assumption) ?_ ?_ ?_ | (simp; done) | (simp; omega)))
                    (first | (refine step_append_rowS rfl _ _ 110 rfl 113 (.agg #[.int .i64 0, .int .i64 0]) 2 16 Try.underlying110 info_Due (by first | kernel_rfl | simp [Value.cells]) (by decide) w1.heap.size gm k cm ((DU y).take (k * 2)) rfl ((HRm.out.drew).alloc _) ⟨wm.heap.size, 0, none⟩ 1 1 [xi, xd] rfl rfl (cell_two_at' _ _ _ _ _ rfl) (by decide) (by unfold maxLen; omega) (by omega) (by have := bm2.size; simp; omega) ?_; intro gn cn wn Rn Wn Ln))
                  have bn : Below w1.heap.size w1 wn := Wn.below (btr bm2 (((Below.refl w1.heap.size wm).drew).alloc bm2.size (.cells #[.int .i64 xi, .int .i64 xd] 113))) (by have := bm2.size; simp; omega) (fun x hx => by obtain rfl := Option.some.inj hx; exact hgm)
                  have RN := ((RY.drew).alloc (.cells #[.int .i64 xi, .int .i64 xd] 113)).wrote Wn (fun a b ha hb => by injection ha with ha; injection hb with hb; subst ha; subst hb; show g0 ≠ gm; omega)
                  clear RY Rm HRm Wn hm0 hm1
                  have hzn := bn.size
                  have hnews0 := slices_of (sl_drop RN.sl k hk) rfl
                  simp only [Nat.zero_add] at hnews0
                  have hnews := Lib.hid hnews0
                  clear hnews0
                  have hnewl : ((DU y).drop (k * 2)).length = (y.length - k) * 2 := by rw [List.length_drop, DU_len]; omega
                  have HF := Lib.hid (show (DU y).take (k * 2) ++ [xi, xd] ++ (DU y).drop (k * 2) = DU (insDu y ⟨xi, xd⟩) by
                    have e := hins.out
                    unfold insDu
                    show _ = DU (y.take (kIns y xd) ++ _ :: y.drop (kIns y xd))
                    rw [e, DU_append, DU_cons, DU_take, DU_drop, List.append_assoc]
                    (try rfl))
                  have HJ := Lib.hid (show insDu y ⟨xi, xd⟩ = openTo l (j + 1) by rw [hop.out, ← hy.out])
                  by_cases hck : c0 = k
                  · have HLK := Lib.hid (show y.length - k = 0 by omega)
                    go_wp2_with (at_builtin; refine wpList_append_row2 rfl _ _ 110 rfl 113 (.agg #[.int .i64 0, .int .i64 0]) 2 16 Try.underlying110 info_Due (by first | kernel_rfl | simp [Value.cells]) (by decide) w1.heap.size (some ⟨gn, 0, none⟩) (k + 1) cn ((DU y).take (k * 2) ++ [xi, xd]) rfl Rn ⟨g0, 0, none⟩ (y.length - k) _ ((DU y).drop (k * 2)) rfl hnewl (fun q u hq => by have hx : (DU y).drop (k * 2) = [] := List.eq_nil_of_length_eq_zero (by rw [hnewl, HLK.out]); rw [hx] at hq; simp [ints] at hq) (by unfold maxLen; omega) (by omega) hzn ?_; intro A5 c5 w5 R5 B5 W5 L5; obtain ⟨g5, cs5, rfl, _⟩ := R5.blk (by omega))
                    rw [HF.out] at R5
                    have hln : k + 1 + (y.length - k) = (insDu y ⟨xi, xd⟩).length := by rw [insDu_len]; omega
                    rw [hln] at R5
                    first
                      | rw [hln]
                      | rw [show 1 + y.length = (insDu y ⟨xi, xd⟩).length by rw [insDu_len]; omega]
                    exact ⟨⟨j + 1, g5, c5, _, by omega, by go_num, rfl, R5.mono hz, HJ, btr HBL.out ((btr bn B5).mono hz)⟩, by simp [intOf]; omega⟩
                  · go_wp2_with (at_builtin; refine wpList_append_row2 rfl _ _ 110 rfl 113 (.agg #[.int .i64 0, .int .i64 0]) 2 16 Try.underlying110 info_Due (by first | kernel_rfl | simp [Value.cells]) (by decide) w1.heap.size (some ⟨gn, 0, none⟩) (k + 1) cn ((DU y).take (k * 2) ++ [xi, xd]) rfl Rn ⟨g0, k * 2, none⟩ (y.length - k) _ ((DU y).drop (k * 2)) rfl hnewl hnews.out (by unfold maxLen; omega) (by omega) hzn ?_; intro A5 c5 w5 R5 B5 W5 L5; obtain ⟨g5, cs5, rfl, _⟩ := R5.blk (by omega))
                    rw [HF.out] at R5
                    have hln : k + 1 + (y.length - k) = (insDu y ⟨xi, xd⟩).length := by rw [insDu_len]; omega
                    rw [hln] at R5
                    first
                      | rw [hln]
                      | rw [show 1 + y.length = (insDu y ⟨xi, xd⟩).length by rw [insDu_len]; omega]
                    exact ⟨⟨j + 1, g5, c5, _, by omega, by go_num, rfl, R5.mono hz, HJ, btr HBL.out ((btr bn B5).mono hz)⟩, by simp [intOf]; omega⟩
      · have hjn2 : j = n := by omega
        subst hjn2
        have hjn' : ¬ (j : Int) < (j : Int) := by omega
        go_wp2
        go_ret
        have e1 : y = openL l := by rw [hy.out]; unfold openL; rw [hL.out]
        subst e1
        exact RetRow.mk R hbl
end Go.Proofs.Ytokklkmibjpjnaa
namespace Go.Proofs.Ytokklkmibjpjnaa
set_option linter.unusedSimpArgs false
set_option linter.unusedVariables false
attribute [local go_sem] n_lt2 n_lt3 n_lt4 n_le2 n_le3
open Go.RowKit

def whoB (x : Int) : Bool := x == 2 || x == 3
def leaseB (h e u : Int) : Bool := (decide (h = 0) && (decide (e = 0) && decide (u = 0))) || (whoB h && (inB e 1 1000 && inB u 1 1001000))
def freeB (h u t : Int) : Bool := decide (h = 0) || decide (u ≤ t)
def freeAtB (h e u t : Int) : Bool := leaseB h e u && (inB t 0 1000000 && freeB h u t)
def holdsB (h e u who ep t : Int) : Bool := leaseB h e u && (inB t 0 1000000 && (!decide (h = 0) && (decide (h = who) && (decide (e = ep) && decide (t < u)))))
def leftI (h e u t : Int) : Int := if leaseB h e u && (inB t 0 1000000 && !freeB h u t) then u - t else 0
def sameLeaseB (h e u h' e' u' : Int) : Bool := leaseB h e u && (decide (h = h') && (decide (e = e') && decide (u = u')))
def grantL (h e u who t long : Int) : (Int × Int × Int) × Bool :=
  if leaseB h e u = true then
    if (whoB who && (inB t 0 1000000 && inB long 1 1000)) = true then
      if h = who then ((h, e, max u (t + long)), true)
      else if (freeB h u t && decide (e < 1000)) = true then ((who, e + 1, t + long), true)
      else ((h, e, u), false)
    else ((h, e, u), false)
  else ((0, 0, 0), false)

theorem lease_bounds {h e u : Int} (hl : leaseB h e u = true) (hh : h ≠ 0) : whoB h = true ∧ 1 ≤ e ∧ e ≤ 1000 ∧ 1 ≤ u ∧ u ≤ 1001000 := by
  unfold leaseB at hl
  simp only [Bool.or_eq_true, Bool.and_eq_true, decide_eq_true_eq, inB_iff] at hl
  rcases hl with hl | ⟨h1, h2, h3⟩
  · exact absurd hl.1 hh
  · exact ⟨h1, h2.1, h2.2, h3.1, h3.2⟩

theorem schedOk_any (x : Int) (w : World) : Calls Try.prog 83 #[.int .i64 x] w fun e w' => e = .returned (.bool (whoB x)) ∧ w = w' := by
  go_enter Try.func83, Try.ntmps83
  go_wp2
  all_goals (go_ret; exact ⟨ret_bool (by first | rfl | (unfold whoB; simp [*])), rfl⟩)
theorem l16Who_any (x : Int) (w : World) : Calls Try.prog 64 #[.int .i64 x] w fun e w' => e = .returned (.bool (whoB x)) ∧ w = w' := by
  go_enter Try.func64, Try.ntmps64
  go_wp2
  all_goals (go_ret; exact ⟨ret_bool (by first | rfl | (unfold whoB; simp [*])), rfl⟩)
theorem l16Time_any (x : Int) (w : World) : Calls Try.prog 28 #[.int .i64 x] w fun e w' => e = .returned (.bool (inB x 0 1000000)) ∧ w = w' := by
  go_enter Try.func28, Try.ntmps28
  go_wp2_with ((go_at_call 27; refine (l1In_any _ _ _ _).mono ?_; rintro e w' ⟨rfl, rfl⟩))
  go_ret; exact ⟨rfl, rfl⟩

set_option maxHeartbeats 400000 in
theorem leaseOk_any (h e u : Int) (w : World) :
    Calls Try.prog 61 #[.agg #[.int .i64 h, .int .i64 e, .int .i64 u]] w fun e' w' => e' = .returned (.bool (leaseB h e u)) ∧ Below w.heap.size w w' := by
  go_enter Try.func61, Try.ntmps61
  go_wp2_with (first | (go_at_call 83; refine (schedOk_any _ _).mono ?_; rintro e w' ⟨rfl, rfl⟩) | (go_at_call 57; refine (between_any _ _ _ _).mono ?_; rintro e w' ⟨rfl, rfl⟩))
  all_goals (go_ret; exact ⟨ret_bool (by unfold leaseB; (first | rfl | (simp [*]; done) | (subst_vars; simp [*]; done) | (simp_all; done))), by (repeat' (first | (with_reducible exact Below.refl _ _) | (with_reducible assumption) | (with_reducible refine Below.alloc ?_ ?_ _) | (with_reducible refine Below.drew ?_) | (with_reducible refine Below.setCell ?_ ?_ _) | (with_reducible refine bstep (by assumption) ?_ ?_) | (with_reducible exact Nat.le_refl _) | omega | (simp [*]; done) | (simp [*]; omega)))⟩)
set_option maxHeartbeats 400000 in
theorem specLeaseOk_any (h e u : Int) (w : World) :
    Calls Try.prog 31 #[.agg #[.int .i64 h, .int .i64 e, .int .i64 u]] w fun e' w' => e' = .returned (.bool (leaseB h e u)) ∧ Below w.heap.size w w' := by
  go_enter Try.func31, Try.ntmps31
  go_wp2_with (first | (go_at_call 64; refine (l16Who_any _ _).mono ?_; rintro e w' ⟨rfl, rfl⟩) | (go_at_call 27; refine (l1In_any _ _ _ _).mono ?_; rintro e w' ⟨rfl, rfl⟩))
  all_goals (go_ret; exact ⟨ret_bool (by unfold leaseB; (first | rfl | (simp [*]; done) | (subst_vars; simp [*]; done) | (simp_all; done))), by (repeat' (first | (with_reducible exact Below.refl _ _) | (with_reducible assumption) | (with_reducible refine Below.alloc ?_ ?_ _) | (with_reducible refine Below.drew ?_) | (with_reducible refine Below.setCell ?_ ?_ _) | (with_reducible refine bstep (by assumption) ?_ ?_) | (with_reducible exact Nat.le_refl _) | omega | (simp [*]; done) | (simp [*]; omega)))⟩)
end Go.Proofs.Ytokklkmibjpjnaa
namespace Go.Proofs.Ytokklkmibjpjnaa
set_option linter.unusedSimpArgs false
set_option linter.unusedVariables false
attribute [local go_sem] n_lt2 n_lt3 n_lt4 n_le2 n_le3
open Go.RowKit

set_option maxHeartbeats 400000 in
theorem specFreeAt_any (h e u t : Int) (w : World) :
    Calls Try.prog 77 #[.agg #[.int .i64 h, .int .i64 e, .int .i64 u], .int .i64 t] w fun e' w' => e' = .returned (.bool (freeAtB h e u t)) ∧ Below w.heap.size w w' := by
  go_enter Try.func77, Try.ntmps77
  go_wp2_with (first | (go_at_call 31; refine (specLeaseOk_any _ _ _ _).mono ?_; rintro e w1 ⟨rfl, hb'⟩; (first | (have hb2 := bstep hb' hb hb.size; clear hb' hcb hfb hz1 hz2 hz3 hz4 hb; have hb := hb2; clear hb2) | (have hb := hb'; clear hb')); obtain ⟨hcb, hfb, hz1, hz2, hz3, hz4⟩ := bcell hb; (try simp only [World.size_alloc, World.size_setCell, World.size_drew, Nat.lt_add_one_iff, Nat.add_assoc, Nat.reduceAdd] at hz1 hz2 hz3 hz4)) | (go_at_call 28; refine (l16Time_any _ _).mono ?_; rintro e w' ⟨rfl, rfl⟩))
  all_goals (go_ret; exact ⟨ret_bool (by unfold freeAtB freeB; (first | rfl | (simp [*]; done) | (subst_vars; simp [*]; done) | (simp_all; done))), by (repeat' (first | (with_reducible exact Below.refl _ _) | (with_reducible assumption) | (with_reducible refine Below.alloc ?_ ?_ _) | (with_reducible refine Below.drew ?_) | (with_reducible refine Below.setCell ?_ ?_ _) | (with_reducible refine bstep (by assumption) ?_ ?_) | (with_reducible exact Nat.le_refl _) | omega | (simp [*]; done) | (simp [*]; omega)))⟩)
set_option maxHeartbeats 800000 in
theorem specHoldsAt_any (h e u who ep t : Int) (w : World) :
    Calls Try.prog 87 #[.agg #[.int .i64 h, .int .i64 e, .int .i64 u], .int .i64 who, .int .i64 ep, .int .i64 t] w fun e' w' => e' = .returned (.bool (holdsB h e u who ep t)) ∧ Below w.heap.size w w' := by
  go_enter Try.func87, Try.ntmps87
  go_wp2_with (first | (go_at_call 31; refine (specLeaseOk_any _ _ _ _).mono ?_; rintro e w1 ⟨rfl, hb'⟩; (first | (have hb2 := bstep hb' hb hb.size; clear hb' hcb hfb hz1 hz2 hz3 hz4 hb; have hb := hb2; clear hb2) | (have hb := hb'; clear hb')); obtain ⟨hcb, hfb, hz1, hz2, hz3, hz4⟩ := bcell hb; (try simp only [World.size_alloc, World.size_setCell, World.size_drew, Nat.lt_add_one_iff, Nat.add_assoc, Nat.reduceAdd] at hz1 hz2 hz3 hz4)) | (go_at_call 28; refine (l16Time_any _ _).mono ?_; rintro e w' ⟨rfl, rfl⟩))
  all_goals (go_ret; exact ⟨ret_bool (by unfold holdsB; (first | rfl | (simp [*]; done) | (subst_vars; simp [*]; done) | (simp_all; done))), by (repeat' (first | (with_reducible exact Below.refl _ _) | (with_reducible assumption) | (with_reducible refine Below.alloc ?_ ?_ _) | (with_reducible refine Below.drew ?_) | (with_reducible refine Below.setCell ?_ ?_ _) | (with_reducible refine bstep (by assumption) ?_ ?_) | (with_reducible exact Nat.le_refl _) | omega | (simp [*]; done) | (simp [*]; omega)))⟩)
end Go.Proofs.Ytokklkmibjpjnaa
namespace Go.Proofs.Ytokklkmibjpjnaa
set_option linter.unusedSimpArgs false
set_option linter.unusedVariables false
attribute [local go_sem] n_lt2 n_lt3 n_lt4 n_le2 n_le3
open Go.RowKit
attribute [local go_sem] Ext.cell Ext.frozen

/-- What a call that hands back a State leaves: its two slices are rows of its own. -/
def RetState (w : World) (i0 t0 l0 l1 l2 : Int) (n : Nat) (zp : List Int) (m : Nat) (zq : List Int) (en : Ending) (w' : World) : Prop :=
  ∃ A c B d, en = .returned (.agg #[.int .i64 i0, .int .i64 t0, .slice A n c, .slice B m d, .int .i64 l0, .int .i64 l1, .int .i64 l2]) ∧ Row w' w.heap.size 82 2 A n c zp ∧ Row w' w.heap.size 70 5 B m d zq ∧ (∀ a b, A = some a → B = some b → a.block ≠ b.block) ∧ Below w.heap.size w w'
end Go.Proofs.Ytokklkmibjpjnaa

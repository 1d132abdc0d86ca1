/- The law's own helpers on Client: sz, to, eq, mark, held. -/
import Derived.Test.YtbcpcddmekoaeaaSWant
import Derived.Test.YtbcpcddmekoaeaaSGot
import Derived.Test.YtbcpcddmekoaeaaBk
namespace Go.Proofs.Ytbcpcddmekoaeaa
set_option linter.unusedSimpArgs false
set_option linter.unusedVariables false
attribute [local go_sem] n_lt2 n_lt3 n_lt4 n_le2 n_le3
open Go.RowKit
attribute [local go_sem] Ext.cell Ext.frozen

/-- What a call that hands back a Client leaves: its two slices are rows of its own. -/
def RetClient (w : World) (i0 t0 : Int) (n : Nat) (zp : List Int) (m : Nat) (zq : List Int) (en : Ending) (w' : World) : Prop :=
  ∃ A c B d, en = .returned (.agg #[.int .i64 i0, .slice A n c, .slice B m d, .int .i64 t0]) ∧ Row w' w.heap.size 80 7 A n c zp ∧ Row w' w.heap.size 72 4 B m d zq ∧ (∀ a b, A = some a → B = some b → a.block ≠ b.block) ∧ Below w.heap.size w w'
theorem szClient_yes (A : Option Addr) (n c : Nat) (B : Option Addr) (m d : Nat) (i0 t0 : Int) (left : Int) (w : World) (h : (n : Int) + m ≤ left) (hl : left ≤ 1048576) :
    Calls Try.prog 14 #[.agg #[.int .i64 i0, .slice A n c, .slice B m d, .int .i64 t0], .int .i64 left] w fun e' w' => e' = .returned (.int .i64 (left - n - m)) ∧ Below w.heap.size w w' := by
  go_enter Try.func14, Try.ntmps14
  go_wp2_with fail
  refine calls_named ?_
  rintro v0 hv0
  have f0 : Below w.heap.size w v0 := by rw [hv0]; (repeat' (first | (with_reducible exact Below.refl _ _) | (with_reducible assumption) | (with_reducible refine Below.alloc ?_ ?_ _) | (with_reducible refine Below.drew ?_) | (with_reducible refine Below.setCell ?_ ?_ _) | (with_reducible refine bstep (by assumption) ?_ ?_) | (with_reducible exact Nat.le_refl _) | omega | (simp [*]; done) | (simp [*]; omega)))
  have z0 : w.heap.size + 1 ≤ v0.heap.size := by rw [hv0]; simp [size_set]
  have Ha_0 : Hid (Blk v0 w.heap.size 25 #[.int .i64 i0, .slice A n c, .slice B m d, .int .i64 t0]) := by rw [hv0]; exact Blk.new_at _ _ _ _ (by simp)
  clear hv0
  have lt_a := Ha_0.out.lt
  have r_a0 : v0.cell? ⟨w.heap.size, 0, none⟩ = some (.int .i64 i0) := Ha_0.out.cell 0
  have r_a1 : v0.cell? ⟨w.heap.size, 1, none⟩ = some (.slice A n c) := Ha_0.out.cell 1
  have r_a2 : v0.cell? ⟨w.heap.size, 2, none⟩ = some (.slice B m d) := Ha_0.out.cell 2
  have r_a3 : v0.cell? ⟨w.heap.size, 3, none⟩ = some (.int .i64 t0) := Ha_0.out.cell 3
  refine (szWantS_yes _ _ _ _ _ (by omega) (by omega)).mono ?_
  rintro e v' ⟨rfl, rfl⟩
  go_wp2_with fail
  refine (szGotS_yes _ _ _ _ _ (by omega) (by omega)).mono ?_
  rintro e v' ⟨rfl, rfl⟩
  go_wp2
  go_ret
  exact ⟨rfl, f0⟩
theorem szClient_no1 (A : Option Addr) (n c : Nat) (B : Option Addr) (m d : Nat) (i0 t0 : Int) (left : Int) (w : World) (h : left < (n : Int)) (h0 : 0 ≤ left) (hl : left ≤ 1048576) (hm : n ≤ maxLen) :
    Calls Try.prog 14 #[.agg #[.int .i64 i0, .slice A n c, .slice B m d, .int .i64 t0], .int .i64 left] w fun e' w' => e' = .returned (.int .i64 (-1)) ∧ Below w.heap.size w w' := by
  go_enter Try.func14, Try.ntmps14
  go_wp2_with fail
  refine calls_named ?_
  rintro v0 hv0
  have f0 : Below w.heap.size w v0 := by rw [hv0]; (repeat' (first | (with_reducible exact Below.refl _ _) | (with_reducible assumption) | (with_reducible refine Below.alloc ?_ ?_ _) | (with_reducible refine Below.drew ?_) | (with_reducible refine Below.setCell ?_ ?_ _) | (with_reducible refine bstep (by assumption) ?_ ?_) | (with_reducible exact Nat.le_refl _) | omega | (simp [*]; done) | (simp [*]; omega)))
  have z0 : w.heap.size + 1 ≤ v0.heap.size := by rw [hv0]; simp [size_set]
  have Ha_0 : Hid (Blk v0 w.heap.size 25 #[.int .i64 i0, .slice A n c, .slice B m d, .int .i64 t0]) := by rw [hv0]; exact Blk.new_at _ _ _ _ (by simp)
  clear hv0
  have lt_a := Ha_0.out.lt
  have r_a0 : v0.cell? ⟨w.heap.size, 0, none⟩ = some (.int .i64 i0) := Ha_0.out.cell 0
  have r_a1 : v0.cell? ⟨w.heap.size, 1, none⟩ = some (.slice A n c) := Ha_0.out.cell 1
  have r_a2 : v0.cell? ⟨w.heap.size, 2, none⟩ = some (.slice B m d) := Ha_0.out.cell 2
  have r_a3 : v0.cell? ⟨w.heap.size, 3, none⟩ = some (.int .i64 t0) := Ha_0.out.cell 3
  refine (szWantS_no _ _ _ _ _ (by omega) (by omega) (by omega) hm).mono ?_
  rintro e v' ⟨rfl, rfl⟩
  go_wp2
  go_ret
  exact ⟨rfl, f0⟩
theorem szClient_no2 (A : Option Addr) (n c : Nat) (B : Option Addr) (m d : Nat) (i0 t0 : Int) (left : Int) (w : World) (h1 : (n : Int) ≤ left) (h : left - n < (m : Int)) (hl : left ≤ 1048576) (hm : m ≤ maxLen) :
    Calls Try.prog 14 #[.agg #[.int .i64 i0, .slice A n c, .slice B m d, .int .i64 t0], .int .i64 left] w fun e' w' => e' = .returned (.int .i64 (-1)) ∧ Below w.heap.size w w' := by
  go_enter Try.func14, Try.ntmps14
  go_wp2_with fail
  refine calls_named ?_
  rintro v0 hv0
  have f0 : Below w.heap.size w v0 := by rw [hv0]; (repeat' (first | (with_reducible exact Below.refl _ _) | (with_reducible assumption) | (with_reducible refine Below.alloc ?_ ?_ _) | (with_reducible refine Below.drew ?_) | (with_reducible refine Below.setCell ?_ ?_ _) | (with_reducible refine bstep (by assumption) ?_ ?_) | (with_reducible exact Nat.le_refl _) | omega | (simp [*]; done) | (simp [*]; omega)))
  have z0 : w.heap.size + 1 ≤ v0.heap.size := by rw [hv0]; simp [size_set]
  have Ha_0 : Hid (Blk v0 w.heap.size 25 #[.int .i64 i0, .slice A n c, .slice B m d, .int .i64 t0]) := by rw [hv0]; exact Blk.new_at _ _ _ _ (by simp)
  clear hv0
  have lt_a := Ha_0.out.lt
  have r_a0 : v0.cell? ⟨w.heap.size, 0, none⟩ = some (.int .i64 i0) := Ha_0.out.cell 0
  have r_a1 : v0.cell? ⟨w.heap.size, 1, none⟩ = some (.slice A n c) := Ha_0.out.cell 1
  have r_a2 : v0.cell? ⟨w.heap.size, 2, none⟩ = some (.slice B m d) := Ha_0.out.cell 2
  have r_a3 : v0.cell? ⟨w.heap.size, 3, none⟩ = some (.int .i64 t0) := Ha_0.out.cell 3
  refine (szWantS_yes _ _ _ _ _ (by omega) (by omega)).mono ?_
  rintro e v' ⟨rfl, rfl⟩
  go_wp2_with fail
  refine (szGotS_no _ _ _ _ _ (by omega) (by omega) (by omega) hm).mono ?_
  rintro e v' ⟨rfl, rfl⟩
  go_wp2
  go_ret
  exact ⟨rfl, f0⟩
set_option maxRecDepth 100000 in
set_option maxHeartbeats 2000000 in
theorem toClient_any (A : Option Addr) (n c : Nat) (B : Option Addr) (m d : Nat) (i0 t0 : Int) (zp zq : List Int) (w : World) (hP : Sl w 7 A n zp) (hQ : Sl w 4 B m zq) (hn : n ≤ 1048576) (hm : m ≤ 1048576) :
    Calls Try.prog 16 #[.agg #[.int .i64 i0, .slice A n c, .slice B m d, .int .i64 t0]] w (RetClient w i0 t0 n zp m zq) := by
  have HP := Lib.hid hP
  have HQ := Lib.hid hQ
  clear hP hQ
  go_enter Try.func16, Try.ntmps16
  go_wp2_with fail
  refine calls_named ?_
  rintro v0 hv0
  have f0 : Below w.heap.size w v0 := by rw [hv0]; (repeat' (first | (with_reducible exact Below.refl _ _) | (with_reducible assumption) | (with_reducible refine Below.alloc ?_ ?_ _) | (with_reducible refine Below.drew ?_) | (with_reducible refine Below.setCell ?_ ?_ _) | (with_reducible refine bstep (by assumption) ?_ ?_) | (with_reducible exact Nat.le_refl _) | omega | (simp [*]; done) | (simp [*]; omega)))
  have z0 : w.heap.size + 3 ≤ v0.heap.size := by rw [hv0]; simp [size_set]
  have HP_0 := Lib.hid (HP.out.below f0)
  have HP_lt := Lib.hid (fun hn => HP.out.lt hn)
  have HQ_0 := Lib.hid (HQ.out.below f0)
  have HQ_lt := Lib.hid (fun hn => HQ.out.lt hn)
  have Ha_0 : Hid (Blk v0 w.heap.size 25 #[.int .i64 i0, .slice A n c, .slice B m d, .int .i64 t0]) := by rw [hv0]; exact ((Blk.new_at _ _ _ _ (by simp)).alloc _).alloc _
  have Hr_0 : Hid (Blk v0 (w.heap.size + 1) 31 #[.int .i64 0, .slice none 0 0, .slice none 0 0, .int .i64 0]) := by rw [hv0]; exact (Blk.new_at _ _ _ _ (by simp)).alloc _
  have Ho_0 : Hid (Blk v0 (w.heap.size + 1 + 1) 31 #[.int .i64 i0, .slice none 0 0, .slice none 0 0, .int .i64 0]) := by rw [hv0]; exact Blk.new_at _ _ _ _ (by simp)
  clear hv0
  generalize hg2 : w.heap.size + 1 + 1 = g2 at *
  generalize hg1 : w.heap.size + 1 = g1 at *
  have lg1 : w.heap.size < g1 := by omega
  have lg2 : g1 < g2 := by omega
  have lgz : g2 < v0.heap.size := by omega
  have nq1x0 : ¬ g1 = w.heap.size := by omega
  have nq0x1 : ¬ w.heap.size = g1 := by omega
  have nq2x0 : ¬ g2 = w.heap.size := by omega
  have nq0x2 : ¬ w.heap.size = g2 := by omega
  have nq2x1 : ¬ g2 = g1 := by omega
  have nq1x2 : ¬ g1 = g2 := by omega
  clear hg1 hg2
  refine (toWantS_any A n c zp _ HP_0.out (by omega)).mono ?_
  rintro e v1 ⟨A1, c1, rfl, Rx, b1⟩
  have f1 := bthen f0 b1
  have z1 := b1.size
  have HP_1 := Lib.hid (HP_0.out.below b1)
  have HQ_1 := Lib.hid (HQ_0.out.below b1)
  have Ha_1 := Lib.hid (Ha_0.out.below b1)
  have Hr_1 := Lib.hid (Hr_0.out.below b1)
  have Ho_1 := Lib.hid (Ho_0.out.below b1)
  clear HP_0 HQ_0 Ha_0 Hr_0 Ho_0
  have Hx_1 := Lib.hid Rx
  clear Rx
  have Lx := Lib.hid (Hx_1.out.lt)
  have lt_a := Ha_1.out.lt
  have r_a0 : v1.cell? ⟨w.heap.size, 0, none⟩ = some (.int .i64 i0) := Ha_1.out.cell 0
  have r_a1 : v1.cell? ⟨w.heap.size, 1, none⟩ = some (.slice A n c) := Ha_1.out.cell 1
  have r_a2 : v1.cell? ⟨w.heap.size, 2, none⟩ = some (.slice B m d) := Ha_1.out.cell 2
  have r_a3 : v1.cell? ⟨w.heap.size, 3, none⟩ = some (.int .i64 t0) := Ha_1.out.cell 3
  have z_o0 := Ho_1.out.frozen 0
  have z_o1 := Ho_1.out.frozen 1
  have z_o2 := Ho_1.out.frozen 2
  have z_o3 := Ho_1.out.frozen 3
  have lt_o := Ho_1.out.lt
  have r_o0 : v1.cell? ⟨g2, 0, none⟩ = some (.int .i64 i0) := Ho_1.out.cell 0
  have r_o1 : v1.cell? ⟨g2, 1, none⟩ = some (.slice none 0 0) := Ho_1.out.cell 1
  have r_o2 : v1.cell? ⟨g2, 2, none⟩ = some (.slice none 0 0) := Ho_1.out.cell 2
  have r_o3 : v1.cell? ⟨g2, 3, none⟩ = some (.int .i64 0) := Ho_1.out.cell 3
  go_wp2_with fail
  refine calls_named ?_
  rintro v2 hv2
  have f2 : Below w.heap.size w v2 := by rw [hv2]; (repeat' (first | (with_reducible exact Below.refl _ _) | (with_reducible assumption) | (with_reducible refine Below.alloc ?_ ?_ _) | (with_reducible refine Below.drew ?_) | (with_reducible refine Below.setCell ?_ ?_ _) | (with_reducible refine bstep (by assumption) ?_ ?_) | (with_reducible exact Nat.le_refl _) | omega | (simp [*]; done) | (simp [*]; omega)))
  have z2 : v1.heap.size + 0 ≤ v2.heap.size := by rw [hv2]; simp [size_set]
  have HP_2 : Hid (Sl v2 7 A n zp) := by rw [hv2]; exact (HP_1.out).far (p := ⟨g2, 1, none⟩) (fun hn a ha => by have := HP_lt.out hn a ha; show a.block ≠ g2; omega) _
  have HQ_2 : Hid (Sl v2 4 B m zq) := by rw [hv2]; exact (HQ_1.out).far (p := ⟨g2, 1, none⟩) (fun hn a ha => by have := HQ_lt.out hn a ha; show a.block ≠ g2; omega) _
  have Ha_2 : Hid (Blk v2 w.heap.size 25 #[.int .i64 i0, .slice A n c, .slice B m d, .int .i64 t0]) := by rw [hv2]; exact (Ha_1.out).far (p := ⟨g2, 1, none⟩) (show w.heap.size ≠ g2 by omega) _
  have Hr_2 : Hid (Blk v2 g1 31 #[.int .i64 0, .slice none 0 0, .slice none 0 0, .int .i64 0]) := by rw [hv2]; exact (Hr_1.out).far (p := ⟨g2, 1, none⟩) (show g1 ≠ g2 by omega) _
  have Ho_2 : Hid (Blk v2 g2 31 #[.int .i64 i0, .slice A1 n c1, .slice none 0 0, .int .i64 0]) := by rw [hv2]; exact (Ho_1.out).set_ 1 _
  have Hx_2 : Hid (Row v2 v0.heap.size 80 7 A1 n c1 zp) := by rw [hv2]; exact (Hx_1.out).far (p := ⟨g2, 1, none⟩) (fun a ha => by have := (Hx_1.out).ge a ha; show a.block ≠ g2; omega) _
  clear lt_a r_a0 r_a1 r_a2 r_a3 z_o0 z_o1 z_o2 z_o3 lt_o r_o0 r_o1 r_o2 r_o3
  clear hv2 HP_1 HQ_1 Ha_1 Hr_1 Ho_1 Hx_1
  refine (toGotS_any B m d zq _ HQ_2.out (by omega)).mono ?_
  rintro e v3 ⟨B1, d1, rfl, Ry, b3⟩
  have f3 := bthen f2 b3
  have z3 := b3.size
  have HP_3 := Lib.hid (HP_2.out.below b3)
  have HQ_3 := Lib.hid (HQ_2.out.below b3)
  have Ha_3 := Lib.hid (Ha_2.out.below b3)
  have Hr_3 := Lib.hid (Hr_2.out.below b3)
  have Ho_3 := Lib.hid (Ho_2.out.below b3)
  have Hx_3 := Lib.hid (Hx_2.out.below b3)
  clear HP_2 HQ_2 Ha_2 Hr_2 Ho_2 Hx_2
  have Hy_3 := Lib.hid Ry
  clear Ry
  have hap : ∀ a b, A1 = some a → B1 = some b → a.block ≠ b.block := fun a b ha hb => by
    have h1 := Lx.out a ha
    have h2 := Hy_3.out.ge b hb
    omega
  have HAP := Lib.hid hap
  clear hap
  have lt_a := Ha_3.out.lt
  have r_a0 : v3.cell? ⟨w.heap.size, 0, none⟩ = some (.int .i64 i0) := Ha_3.out.cell 0
  have r_a1 : v3.cell? ⟨w.heap.size, 1, none⟩ = some (.slice A n c) := Ha_3.out.cell 1
  have r_a2 : v3.cell? ⟨w.heap.size, 2, none⟩ = some (.slice B m d) := Ha_3.out.cell 2
  have r_a3 : v3.cell? ⟨w.heap.size, 3, none⟩ = some (.int .i64 t0) := Ha_3.out.cell 3
  have z_o0 := Ho_3.out.frozen 0
  have z_o1 := Ho_3.out.frozen 1
  have z_o2 := Ho_3.out.frozen 2
  have z_o3 := Ho_3.out.frozen 3
  have lt_o := Ho_3.out.lt
  have r_o0 : v3.cell? ⟨g2, 0, none⟩ = some (.int .i64 i0) := Ho_3.out.cell 0
  have r_o1 : v3.cell? ⟨g2, 1, none⟩ = some (.slice A1 n c1) := Ho_3.out.cell 1
  have r_o2 : v3.cell? ⟨g2, 2, none⟩ = some (.slice none 0 0) := Ho_3.out.cell 2
  have r_o3 : v3.cell? ⟨g2, 3, none⟩ = some (.int .i64 0) := Ho_3.out.cell 3
  have z_r0 := Hr_3.out.frozen 0
  have z_r1 := Hr_3.out.frozen 1
  have z_r2 := Hr_3.out.frozen 2
  have z_r3 := Hr_3.out.frozen 3
  have lt_r := Hr_3.out.lt
  have r_r0 : v3.cell? ⟨g1, 0, none⟩ = some (.int .i64 0) := Hr_3.out.cell 0
  have r_r1 : v3.cell? ⟨g1, 1, none⟩ = some (.slice none 0 0) := Hr_3.out.cell 1
  have r_r2 : v3.cell? ⟨g1, 2, none⟩ = some (.slice none 0 0) := Hr_3.out.cell 2
  have r_r3 : v3.cell? ⟨g1, 3, none⟩ = some (.int .i64 0) := Hr_3.out.cell 3
  go_wp21
  refine bodyPost_ret (v := .agg #[.int .i64 i0, .slice A1 n c1, .slice B1 m d1, .int .i64 t0]) (by simp [results, Try.results16, go_sem, *]) rfl ?_
  exact ⟨A1, c1, B1, d1, rfl, (((((((Hx_3.out).far (p := ⟨g2, 2, none⟩) (fun a ha => by have := (Hx_3.out).ge a ha; show a.block ≠ g2; omega) _).far (p := ⟨g2, 3, none⟩) (fun a ha => by have := (Hx_3.out).ge a ha; show a.block ≠ g2; omega) _).far (p := ⟨g1, 0, none⟩) (fun a ha => by have := (Hx_3.out).ge a ha; show a.block ≠ g1; omega) _).far (p := ⟨g1, 1, none⟩) (fun a ha => by have := (Hx_3.out).ge a ha; show a.block ≠ g1; omega) _).far (p := ⟨g1, 2, none⟩) (fun a ha => by have := (Hx_3.out).ge a ha; show a.block ≠ g1; omega) _).far (p := ⟨g1, 3, none⟩) (fun a ha => by have := (Hx_3.out).ge a ha; show a.block ≠ g1; omega) _).mono (by omega), (((((((Hy_3.out).far (p := ⟨g2, 2, none⟩) (fun a ha => by have := (Hy_3.out).ge a ha; show a.block ≠ g2; omega) _).far (p := ⟨g2, 3, none⟩) (fun a ha => by have := (Hy_3.out).ge a ha; show a.block ≠ g2; omega) _).far (p := ⟨g1, 0, none⟩) (fun a ha => by have := (Hy_3.out).ge a ha; show a.block ≠ g1; omega) _).far (p := ⟨g1, 1, none⟩) (fun a ha => by have := (Hy_3.out).ge a ha; show a.block ≠ g1; omega) _).far (p := ⟨g1, 2, none⟩) (fun a ha => by have := (Hy_3.out).ge a ha; show a.block ≠ g1; omega) _).far (p := ⟨g1, 3, none⟩) (fun a ha => by have := (Hy_3.out).ge a ha; show a.block ≠ g1; omega) _).mono (by omega), HAP.out, by (repeat' (first | (with_reducible exact Below.refl _ _) | (with_reducible assumption) | (with_reducible refine Below.alloc ?_ ?_ _) | (with_reducible refine Below.drew ?_) | (with_reducible refine Below.setCell ?_ ?_ _) | (with_reducible refine bstep (by assumption) ?_ ?_) | (with_reducible exact Nat.le_refl _) | omega | (simp [*]; done) | (simp [*]; omega)))⟩
set_option maxRecDepth 100000 in
set_option maxHeartbeats 2000000 in
theorem eqClient_same (A A2 : Option Addr) (n c c2 : Nat) (B B2 : Option Addr) (m d d2 : Nat) (i0 t0 : Int) (zp zq : List Int) (w : World) (hP : Sl w 7 A n zp) (hQ : Sl w 4 B m zq) (hU : Sl w 7 A2 n zp) (hW : Sl w 4 B2 m zq) (hm0 : n ≤ maxLen) (hm1 : m ≤ maxLen) :
    Calls Try.prog 18 #[.agg #[.int .i64 i0, .slice A n c, .slice B m d, .int .i64 t0], .agg #[.int .i64 i0, .slice A2 n c2, .slice B2 m d2, .int .i64 t0]] w fun e' w' => e' = .returned (.bool true) ∧ Below w.heap.size w w' := by
  have HP := Lib.hid hP
  have HQ := Lib.hid hQ
  have HU := Lib.hid hU
  have HW := Lib.hid hW
  clear hP hQ hU hW
  have ez := eqL_self zp
  have eq := eqL_self zq
  go_enter Try.func18, Try.ntmps18
  go_wp2_with fail
  refine calls_named ?_
  rintro v0 hv0
  have f0 : Below w.heap.size w v0 := by rw [hv0]; (repeat' (first | (with_reducible exact Below.refl _ _) | (with_reducible assumption) | (with_reducible refine Below.alloc ?_ ?_ _) | (with_reducible refine Below.drew ?_) | (with_reducible refine Below.setCell ?_ ?_ _) | (with_reducible refine bstep (by assumption) ?_ ?_) | (with_reducible exact Nat.le_refl _) | omega | (simp [*]; done) | (simp [*]; omega)))
  have z0 : w.heap.size + 2 ≤ v0.heap.size := by rw [hv0]; simp [size_set]
  have HP_0 := Lib.hid (HP.out.below f0)
  have HP_lt := Lib.hid (fun hn => HP.out.lt hn)
  have HQ_0 := Lib.hid (HQ.out.below f0)
  have HQ_lt := Lib.hid (fun hn => HQ.out.lt hn)
  have HU_0 := Lib.hid (HU.out.below f0)
  have HU_lt := Lib.hid (fun hn => HU.out.lt hn)
  have HW_0 := Lib.hid (HW.out.below f0)
  have HW_lt := Lib.hid (fun hn => HW.out.lt hn)
  have Ha_0 : Hid (Blk v0 w.heap.size 31 #[.int .i64 i0, .slice A n c, .slice B m d, .int .i64 t0]) := by rw [hv0]; exact (Blk.new_at _ _ _ _ (by simp)).alloc _
  have Hb_0 : Hid (Blk v0 (w.heap.size + 1) 31 #[.int .i64 i0, .slice A2 n c2, .slice B2 m d2, .int .i64 t0]) := by rw [hv0]; exact Blk.new_at _ _ _ _ (by simp)
  clear hv0
  generalize hg1 : w.heap.size + 1 = g1 at *
  have lg1 : w.heap.size < g1 := by omega
  have lgz : g1 < v0.heap.size := by omega
  have nq1x0 : ¬ g1 = w.heap.size := by omega
  have nq0x1 : ¬ w.heap.size = g1 := by omega
  clear hg1
  have lt_a := Ha_0.out.lt
  have r_a0 : v0.cell? ⟨w.heap.size, 0, none⟩ = some (.int .i64 i0) := Ha_0.out.cell 0
  have r_a1 : v0.cell? ⟨w.heap.size, 1, none⟩ = some (.slice A n c) := Ha_0.out.cell 1
  have r_a2 : v0.cell? ⟨w.heap.size, 2, none⟩ = some (.slice B m d) := Ha_0.out.cell 2
  have r_a3 : v0.cell? ⟨w.heap.size, 3, none⟩ = some (.int .i64 t0) := Ha_0.out.cell 3
  have lt_b := Hb_0.out.lt
  have r_b0 : v0.cell? ⟨g1, 0, none⟩ = some (.int .i64 i0) := Hb_0.out.cell 0
  have r_b1 : v0.cell? ⟨g1, 1, none⟩ = some (.slice A2 n c2) := Hb_0.out.cell 1
  have r_b2 : v0.cell? ⟨g1, 2, none⟩ = some (.slice B2 m d2) := Hb_0.out.cell 2
  have r_b3 : v0.cell? ⟨g1, 3, none⟩ = some (.int .i64 t0) := Hb_0.out.cell 3
  refine (eqWantS_any A A2 n n c c2 zp zp _ HP_0.out HU_0.out hm0 hm0).mono ?_
  rintro e v1 ⟨rfl, b1⟩
  have f1 := bthen f0 b1
  have z1 := b1.size
  have HP_1 := Lib.hid (HP_0.out.below b1)
  have HQ_1 := Lib.hid (HQ_0.out.below b1)
  have HU_1 := Lib.hid (HU_0.out.below b1)
  have HW_1 := Lib.hid (HW_0.out.below b1)
  have Ha_1 := Lib.hid (Ha_0.out.below b1)
  have Hb_1 := Lib.hid (Hb_0.out.below b1)
  clear lt_a r_a0 r_a1 r_a2 r_a3 lt_b r_b0 r_b1 r_b2 r_b3
  clear HP_0 HQ_0 HU_0 HW_0 Ha_0 Hb_0
  have lt_a := Ha_1.out.lt
  have r_a0 : v1.cell? ⟨w.heap.size, 0, none⟩ = some (.int .i64 i0) := Ha_1.out.cell 0
  have r_a1 : v1.cell? ⟨w.heap.size, 1, none⟩ = some (.slice A n c) := Ha_1.out.cell 1
  have r_a2 : v1.cell? ⟨w.heap.size, 2, none⟩ = some (.slice B m d) := Ha_1.out.cell 2
  have r_a3 : v1.cell? ⟨w.heap.size, 3, none⟩ = some (.int .i64 t0) := Ha_1.out.cell 3
  have lt_b := Hb_1.out.lt
  have r_b0 : v1.cell? ⟨g1, 0, none⟩ = some (.int .i64 i0) := Hb_1.out.cell 0
  have r_b1 : v1.cell? ⟨g1, 1, none⟩ = some (.slice A2 n c2) := Hb_1.out.cell 1
  have r_b2 : v1.cell? ⟨g1, 2, none⟩ = some (.slice B2 m d2) := Hb_1.out.cell 2
  have r_b3 : v1.cell? ⟨g1, 3, none⟩ = some (.int .i64 t0) := Hb_1.out.cell 3
  go_wp2_with fail
  refine (eqGotS_any B B2 m m d d2 zq zq _ HQ_1.out HW_1.out hm1 hm1).mono ?_
  rintro e v2 ⟨rfl, b2⟩
  have f2 := bthen f1 b2
  have z2 := b2.size
  have HP_2 := Lib.hid (HP_1.out.below b2)
  have HQ_2 := Lib.hid (HQ_1.out.below b2)
  have HU_2 := Lib.hid (HU_1.out.below b2)
  have HW_2 := Lib.hid (HW_1.out.below b2)
  have Ha_2 := Lib.hid (Ha_1.out.below b2)
  have Hb_2 := Lib.hid (Hb_1.out.below b2)
  clear lt_a r_a0 r_a1 r_a2 r_a3 lt_b r_b0 r_b1 r_b2 r_b3
  clear HP_1 HQ_1 HU_1 HW_1 Ha_1 Hb_1
  have lt_a := Ha_2.out.lt
  have r_a0 : v2.cell? ⟨w.heap.size, 0, none⟩ = some (.int .i64 i0) := Ha_2.out.cell 0
  have r_a1 : v2.cell? ⟨w.heap.size, 1, none⟩ = some (.slice A n c) := Ha_2.out.cell 1
  have r_a2 : v2.cell? ⟨w.heap.size, 2, none⟩ = some (.slice B m d) := Ha_2.out.cell 2
  have r_a3 : v2.cell? ⟨w.heap.size, 3, none⟩ = some (.int .i64 t0) := Ha_2.out.cell 3
  have lt_b := Hb_2.out.lt
  have r_b0 : v2.cell? ⟨g1, 0, none⟩ = some (.int .i64 i0) := Hb_2.out.cell 0
  have r_b1 : v2.cell? ⟨g1, 1, none⟩ = some (.slice A2 n c2) := Hb_2.out.cell 1
  have r_b2 : v2.cell? ⟨g1, 2, none⟩ = some (.slice B2 m d2) := Hb_2.out.cell 2
  have r_b3 : v2.cell? ⟨g1, 3, none⟩ = some (.int .i64 t0) := Hb_2.out.cell 3
  go_wp2
  go_ret
  exact ⟨rfl, f2⟩
end Go.Proofs.Ytbcpcddmekoaeaa

/- The law's own helpers on slices of Want: sz, to, eq, mark, held. -/
import Derived.Test.YtbcpcddmekoaeaaA1
import Derived.Test.YtbcpcddmekoaeaaMem
import Derived.Test.YtbcpcddmekoaeaaSOp
import Derived.Test.YtbcpcddmekoaeaaBk
namespace Go.Proofs.Ytbcpcddmekoaeaa
set_option linter.unusedSimpArgs false
set_option linter.unusedVariables false
attribute [local go_sem] n_lt2 n_lt3 n_lt4 n_le2 n_le3
open Go.RowKit
attribute [local go_sem] Ext.cell Ext.frozen
set_option maxRecDepth 100000 in
set_option maxHeartbeats 8000000 in
theorem toWant_any (a0 a1 a2 a3 a4 a5 a6 : Int) (w : World) :
    Calls Try.prog 67 #[.agg #[.int .i64 a0, .int .i64 a1, .int .i64 a2, .int .i64 a3, .int .i64 a4, .int .i64 a5, .int .i64 a6]] w fun e' w' => e' = .returned (.agg #[.int .i64 a0, .int .i64 a1, .int .i64 a2, .int .i64 a3, .int .i64 a4, .int .i64 a5, .int .i64 a6]) ∧ Below w.heap.size w w' := by
  go_enter Try.func67, Try.ntmps67
  go_wp2_with fail
  refine calls_named ?_
  rintro v0 hv0
  have f0 : Below w.heap.size w v0 := by rw [hv0]; (repeat' (first | (with_reducible exact Below.refl _ _) | (with_reducible assumption) | (with_reducible refine Below.alloc ?_ ?_ _) | (with_reducible refine Below.drew ?_) | (with_reducible refine Below.setCell ?_ ?_ _) | (with_reducible refine bstep (by assumption) ?_ ?_) | (with_reducible exact Nat.le_refl _) | omega | (simp [*]; done) | (simp [*]; omega)))
  have z0 : w.heap.size + 3 ≤ v0.heap.size := by rw [hv0]; simp [size_set]
  have Ha_0 : Hid (Blk v0 w.heap.size 101 #[.int .i64 a0, .int .i64 a1, .int .i64 a2, .int .i64 a3, .int .i64 a4, .int .i64 a5, .int .i64 a6]) := by rw [hv0]; exact ((Blk.new_at _ _ _ _ (by simp)).alloc _).alloc _
  have Hr_0 : Hid (Blk v0 (w.heap.size + 1) 80 #[.int .i64 0, .int .i64 0, .int .i64 0, .int .i64 0, .int .i64 0, .int .i64 0, .int .i64 0]) := by rw [hv0]; exact (Blk.new_at _ _ _ _ (by simp)).alloc _
  have Ho_0 : Hid (Blk v0 (w.heap.size + 1 + 1) 80 #[.int .i64 a0, .int .i64 0, .int .i64 0, .int .i64 0, .int .i64 0, .int .i64 0, .int .i64 0]) := by rw [hv0]; exact Blk.new_at _ _ _ _ (by simp)
  clear hv0
  generalize hg2 : w.heap.size + 1 + 1 = g2 at *
  generalize hg1 : w.heap.size + 1 = g1 at *
  have lg1 : w.heap.size < g1 := by omega
  have lg2 : g1 < g2 := by omega
  have lgz : g2 < v0.heap.size := by omega
  have nq1x0 : ¬ g1 = w.heap.size := by omega
  have nq0x1 : ¬ w.heap.size = g1 := by omega
  have nq2x0 : ¬ g2 = w.heap.size := by omega
  have nq0x2 : ¬ w.heap.size = g2 := by omega
  have nq2x1 : ¬ g2 = g1 := by omega
  have nq1x2 : ¬ g1 = g2 := by omega
  clear hg1 hg2
  refine (toOp_any a1 a2 a3 a4 a5 _).mono ?_
  rintro e v1 ⟨rfl, b1⟩
  have f1 := bthen f0 b1
  have z1 := b1.size
  have Ha_1 := Lib.hid (Ha_0.out.below b1)
  have Hr_1 := Lib.hid (Hr_0.out.below b1)
  have Ho_1 := Lib.hid (Ho_0.out.below b1)
  clear Ha_0 Hr_0 Ho_0
  have lt_a := Ha_1.out.lt
  have r_a0 : v1.cell? ⟨w.heap.size, 0, none⟩ = some (.int .i64 a0) := Ha_1.out.cell 0
  have r_a1 : v1.cell? ⟨w.heap.size, 1, none⟩ = some (.int .i64 a1) := Ha_1.out.cell 1
  have r_a2 : v1.cell? ⟨w.heap.size, 2, none⟩ = some (.int .i64 a2) := Ha_1.out.cell 2
  have r_a3 : v1.cell? ⟨w.heap.size, 3, none⟩ = some (.int .i64 a3) := Ha_1.out.cell 3
  have r_a4 : v1.cell? ⟨w.heap.size, 4, none⟩ = some (.int .i64 a4) := Ha_1.out.cell 4
  have r_a5 : v1.cell? ⟨w.heap.size, 5, none⟩ = some (.int .i64 a5) := Ha_1.out.cell 5
  have r_a6 : v1.cell? ⟨w.heap.size, 6, none⟩ = some (.int .i64 a6) := Ha_1.out.cell 6
  have z_o0 := Ho_1.out.frozen 0
  have z_o1 := Ho_1.out.frozen 1
  have z_o2 := Ho_1.out.frozen 2
  have z_o3 := Ho_1.out.frozen 3
  have z_o4 := Ho_1.out.frozen 4
  have z_o5 := Ho_1.out.frozen 5
  have z_o6 := Ho_1.out.frozen 6
  have lt_o := Ho_1.out.lt
  have r_o0 : v1.cell? ⟨g2, 0, none⟩ = some (.int .i64 a0) := Ho_1.out.cell 0
  have r_o1 : v1.cell? ⟨g2, 1, none⟩ = some (.int .i64 0) := Ho_1.out.cell 1
  have r_o2 : v1.cell? ⟨g2, 2, none⟩ = some (.int .i64 0) := Ho_1.out.cell 2
  have r_o3 : v1.cell? ⟨g2, 3, none⟩ = some (.int .i64 0) := Ho_1.out.cell 3
  have r_o4 : v1.cell? ⟨g2, 4, none⟩ = some (.int .i64 0) := Ho_1.out.cell 4
  have r_o5 : v1.cell? ⟨g2, 5, none⟩ = some (.int .i64 0) := Ho_1.out.cell 5
  have r_o6 : v1.cell? ⟨g2, 6, none⟩ = some (.int .i64 0) := Ho_1.out.cell 6
  have z_r0 := Hr_1.out.frozen 0
  have z_r1 := Hr_1.out.frozen 1
  have z_r2 := Hr_1.out.frozen 2
  have z_r3 := Hr_1.out.frozen 3
  have z_r4 := Hr_1.out.frozen 4
  have z_r5 := Hr_1.out.frozen 5
  have z_r6 := Hr_1.out.frozen 6
  have lt_r := Hr_1.out.lt
  have r_r0 : v1.cell? ⟨g1, 0, none⟩ = some (.int .i64 0) := Hr_1.out.cell 0
  have r_r1 : v1.cell? ⟨g1, 1, none⟩ = some (.int .i64 0) := Hr_1.out.cell 1
  have r_r2 : v1.cell? ⟨g1, 2, none⟩ = some (.int .i64 0) := Hr_1.out.cell 2
  have r_r3 : v1.cell? ⟨g1, 3, none⟩ = some (.int .i64 0) := Hr_1.out.cell 3
  have r_r4 : v1.cell? ⟨g1, 4, none⟩ = some (.int .i64 0) := Hr_1.out.cell 4
  have r_r5 : v1.cell? ⟨g1, 5, none⟩ = some (.int .i64 0) := Hr_1.out.cell 5
  have r_r6 : v1.cell? ⟨g1, 6, none⟩ = some (.int .i64 0) := Hr_1.out.cell 6
  go_wp21
  refine bodyPost_ret (v := .agg #[.int .i64 a0, .int .i64 a1, .int .i64 a2, .int .i64 a3, .int .i64 a4, .int .i64 a5, .int .i64 a6]) (by simp [results, Try.results67, go_sem, *]) rfl ⟨rfl, ?_⟩
  (repeat' (first | (with_reducible exact Below.refl _ _) | (with_reducible assumption) | (with_reducible refine Below.alloc ?_ ?_ _) | (with_reducible refine Below.drew ?_) | (with_reducible refine Below.setCell ?_ ?_ _) | (with_reducible refine bstep (by assumption) ?_ ?_) | (with_reducible exact Nat.le_refl _) | omega | (simp [*]; done) | (simp [*]; omega)))
set_option maxHeartbeats 8000000 in
theorem eqWant_any (a0 a1 a2 a3 a4 a5 a6 b0 b1 b2 b3 b4 b5 b6 : Int) (w : World) :
    Calls Try.prog 68 #[.agg #[.int .i64 a0, .int .i64 a1, .int .i64 a2, .int .i64 a3, .int .i64 a4, .int .i64 a5, .int .i64 a6], .agg #[.int .i64 b0, .int .i64 b1, .int .i64 b2, .int .i64 b3, .int .i64 b4, .int .i64 b5, .int .i64 b6]] w fun e' w' => e' = .returned (.bool (eqL [a0, a1, a2, a3, a4, a5, a6] [b0, b1, b2, b3, b4, b5, b6])) ∧ Below w.heap.size w w' := by
  go_enter Try.func68, Try.ntmps68
  go_wp2_with ((go_at_call 105; refine (eqOp_any _ _ _ _ _ _ _ _ _ _ _).mono ?_; rintro e w1 ⟨rfl, hb'⟩; (first | (have hb2 := bstep hb' hb hb.size; clear hb' hcb hfb hz1 hz2 hz3 hz4 hb; have hb := hb2; clear hb2) | (have hb := hb'; clear hb')); obtain ⟨hcb, hfb, hz1, hz2, hz3, hz4⟩ := bcell hb; (try simp only [World.size_alloc, World.size_setCell, World.size_drew, Nat.lt_add_one_iff, Nat.add_assoc, Nat.reduceAdd] at hz1 hz2 hz3 hz4)))
  all_goals (go_ret; exact ⟨ret_bool (by first | (unfold eqL at *; simp_all; done) | (simp [eqL] at *; simp [*]; done) | (simp [eqL] at *; intros; simp_all; done) | (unfold eqL; (first | rfl | (simp [*]; done) | (subst_vars; simp [*]; done) | (simp_all; done)))), by (repeat' (first | (with_reducible exact Below.refl _ _) | (with_reducible assumption) | (with_reducible refine Below.alloc ?_ ?_ _) | (with_reducible refine Below.drew ?_) | (with_reducible refine Below.setCell ?_ ?_ _) | (with_reducible refine bstep (by assumption) ?_ ?_) | (with_reducible exact Nat.le_refl _) | omega | (simp [*]; done) | (simp [*]; omega)))⟩)

theorem szWantS_yes (A : Option Addr) (n cap : Nat) (left : Int) (w : World) (hn : (n : Int) ≤ left) (hl : left ≤ 1048576) :
    Calls Try.prog 25 #[.slice A n cap, .int .i64 left] w fun e w' => e = .returned (.int .i64 (left - n)) ∧ w = w' := by
  go_enter Try.func25, Try.ntmps25
  go_wp2
  go_ret
  exact ⟨rfl, rfl⟩
theorem szWantS_no (A : Option Addr) (n cap : Nat) (left : Int) (w : World) (hn : left < (n : Int)) (h0 : 0 ≤ left) (hl : left ≤ 1048576) (hm : n ≤ maxLen) :
    Calls Try.prog 25 #[.slice A n cap, .int .i64 left] w fun e w' => e = .returned (.int .i64 (-1)) ∧ w = w' := by
  unfold maxLen at hm
  go_enter Try.func25, Try.ntmps25
  go_wp2
  go_ret
  exact ⟨rfl, rfl⟩

theorem info_Want : (Try.prog.info? 80).map (fun i => (i.zero, i.size, i.bytes)) = some (some (.agg #[.int .i64 0, .int .i64 0, .int .i64 0, .int .i64 0, .int .i64 0, .int .i64 0, .int .i64 0]), 7, 56) := by kernel_rfl

set_option maxHeartbeats 1600000 in
theorem toWantS_any (A : Option Addr) (n cap : Nat) (zs : List Int) (w : World) (hS : Sl w 7 A n zs) (hn : n ≤ 1048576) :
    Calls Try.prog 27 #[.slice A n cap] w (RetRow w 80 7 n zs) := by
  have hmk := fun W => make_flat (P := Try.prog) 28 80 (.agg #[.int .i64 0, .int .i64 0, .int .i64 0, .int .i64 0, .int .i64 0, .int .i64 0, .int .i64 0]) 7 56 Try.underlying28 info_Want (by decide) n hn W
  have HS := Lib.hid hS
  clear hS
  go_enter Try.func27, Try.ntmps27
  go_wp2
  clear hmk
  go_loopw [4] (fun i wr => ∃ (k : Nat) (cs : Array Value), k ≤ n ∧ i = .int .i64 k ∧ Below w.heap.size w wr ∧ Blk wr w.heap.size 80 cs ∧ Hid (cs.size = n * 7) ∧ Hid (∀ j, j < k * 7 → cs[j]? = some (.int .i64 (zs.getD j 0)))) (fun i _ => n - (intOf i).toNat)
  case atStart => exact ⟨0, _, Nat.zero_le _, rfl, (Below.refl _ _).alloc (Nat.le_refl _) _, Blk.new _ _ _, by simp [size_madeCells, Hid], fun j hj => absurd hj (by omega)⟩
  case round =>
    obtain ⟨k, cs, hk, rfl, hbl, hblk, hcs, hall⟩ := hrel
    by_cases hlt : k < n
    · obtain ⟨b, off, rfl, hb, hcell⟩ := HS.out.at_ (by omega)
      have h0 := hcell (k * 7) (by omega)
      have h1 := hcell (k * 7 + 1) (by omega)
      have h2 := hcell (k * 7 + 2) (by omega)
      have h3 := hcell (k * 7 + 3) (by omega)
      have h4 := hcell (k * 7 + 4) (by omega)
      have h5 := hcell (k * 7 + 5) (by omega)
      have h6 := hcell (k * 7 + 6) (by omega)
      rw [← hbl.cell (by exact hb)] at h0 h1 h2 h3 h4 h5 h6
      simp only [← Nat.add_assoc] at h0 h1 h2 h3 h4 h5 h6
      clear hcell
      generalize hx0 : zs.getD (k * 7) 0 = x0 at h0
      generalize hx1 : zs.getD (k * 7 + 1) 0 = x1 at h1
      generalize hx2 : zs.getD (k * 7 + 2) 0 = x2 at h2
      generalize hx3 : zs.getD (k * 7 + 3) 0 = x3 at h3
      generalize hx4 : zs.getD (k * 7 + 4) 0 = x4 at h4
      generalize hx5 : zs.getD (k * 7 + 5) 0 = x5 at h5
      generalize hx6 : zs.getD (k * 7 + 6) 0 = x6 at h6
      have HX := Lib.hid (And.intro hx0 (And.intro hx1 (And.intro hx2 (And.intro hx3 (And.intro hx4 (And.intro hx5 hx6))))))
      clear hx0 hx1 hx2 hx3 hx4 hx5 hx6
      have hg := hblk.lt
      have hbr : b < wr.heap.size := Nat.lt_of_lt_of_le hb hbl.size
      obtain ⟨c0, g0⟩ := hblk.has (i := k * 7) (by have := hcs.out; omega)
      obtain ⟨c1, g1⟩ := hblk.has (i := k * 7 + 1) (by have := hcs.out; omega)
      obtain ⟨c2, g2⟩ := hblk.has (i := k * 7 + 2) (by have := hcs.out; omega)
      obtain ⟨c3, g3⟩ := hblk.has (i := k * 7 + 3) (by have := hcs.out; omega)
      obtain ⟨c4, g4⟩ := hblk.has (i := k * 7 + 4) (by have := hcs.out; omega)
      obtain ⟨c5, g5⟩ := hblk.has (i := k * 7 + 5) (by have := hcs.out; omega)
      obtain ⟨c6, g6⟩ := hblk.has (i := k * 7 + 6) (by have := hcs.out; omega)
      have f0 := hblk.frozen (k * 7)
      have f1 := hblk.frozen (k * 7 + 1)
      have f2 := hblk.frozen (k * 7 + 2)
      have f3 := hblk.frozen (k * 7 + 3)
      have f4 := hblk.frozen (k * 7 + 4)
      have f5 := hblk.frozen (k * 7 + 5)
      have f6 := hblk.frozen (k * 7 + 6)
      go_wp2_with ((go_at_call 67; refine (toWant_any _ _ _ _ _ _ _ _).mono ?_; rintro e w1 ⟨rfl, hb'⟩; (first | (have hb2 := bstep hb' hb hb.size; clear hb' hcb hfb hz1 hz2 hz3 hz4 hb; have hb := hb2; clear hb2) | (have hb := hb'; clear hb')); obtain ⟨hcb, hfb, hz1, hz2, hz3, hz4⟩ := bcell hb; (try simp only [World.size_alloc, World.size_setCell, World.size_drew, Nat.lt_add_one_iff, Nat.add_assoc, Nat.reduceAdd] at hz1 hz2 hz3 hz4)))
      refine ⟨⟨k + 1, _, by omega, by go_num, ((((((((bstep hb hbl hbl.size).setCell (by simp) _).setCell (by simp) _).setCell (by simp) _).setCell (by simp) _).setCell (by simp) _).setCell (by simp) _).setCell (by simp) _), ((((((((hblk.below hb).set_ _ _).set_ _ _).set_ _ _).set_ _ _).set_ _ _).set_ _ _).set_ _ _), ?_, ?_⟩, by simp [intOf]; omega⟩
      · show Array.size _ = _
        simp only [Array.size_setIfInBounds]
        exact hcs.out
      · intro j hj
        have hcsz := hcs.out
        have hxy := HX.out
        simp only [Array.getElem?_setIfInBounds, Array.size_setIfInBounds]
        rcases (by omega : j < k * 7 ∨ j = k * 7 ∨ j = k * 7 + 1 ∨ j = k * 7 + 2 ∨ j = k * 7 + 3 ∨ j = k * 7 + 4 ∨ j = k * 7 + 5 ∨ j = k * 7 + 6) with h | h | h | h | h | h | h | h
        · rw [if_neg (by omega), if_neg (by omega), if_neg (by omega), if_neg (by omega), if_neg (by omega), if_neg (by omega), if_neg (by omega)]
          exact hall.out j h
        · rw [if_neg (by omega), if_neg (by omega), if_neg (by omega), if_neg (by omega), if_neg (by omega), if_neg (by omega), if_pos (by omega), if_pos (by omega), h, hxy.1]
        · rw [if_neg (by omega), if_neg (by omega), if_neg (by omega), if_neg (by omega), if_neg (by omega), if_pos (by omega), if_pos (by omega), h, hxy.2.1]
        · rw [if_neg (by omega), if_neg (by omega), if_neg (by omega), if_neg (by omega), if_pos (by omega), if_pos (by omega), h, hxy.2.2.1]
        · rw [if_neg (by omega), if_neg (by omega), if_neg (by omega), if_pos (by omega), if_pos (by omega), h, hxy.2.2.2.1]
        · rw [if_neg (by omega), if_neg (by omega), if_pos (by omega), if_pos (by omega), h, hxy.2.2.2.2.1]
        · rw [if_neg (by omega), if_pos (by omega), if_pos (by omega), h, hxy.2.2.2.2.2.1]
        · rw [if_pos (by omega), if_pos (by omega), h, hxy.2.2.2.2.2.2]
    · have hkn : k = n := by omega
      subst hkn
      go_wp2
      go_ret
      exact RetRow.mk (hblk.row (Nat.le_refl _) (by simp [maxLen]; omega) hcs.out HS.out.len (by simpa using hall.out)) hbl

set_option maxHeartbeats 1600000 in
theorem eqWantS_any (A B : Option Addr) (n m cap cap' : Nat) (zs ys : List Int) (w : World) (hS : Sl w 7 A n zs) (hT : Sl w 7 B m ys) (hn : n ≤ maxLen) (hm : m ≤ maxLen) :
    Calls Try.prog 29 #[.slice A n cap, .slice B m cap'] w fun e w' => e = .returned (.bool (eqL zs ys)) ∧ Below w.heap.size w w' := by
  unfold maxLen at hn hm
  by_cases hnm : n = m
  · subst hnm
    have HS := Lib.hid hS
    have HT := Lib.hid hT
    clear hS hT
    go_enter Try.func29, Try.ntmps29
    go_wp2
    go_loopw [5] (fun i wr => ∃ (k : Nat), k ≤ n ∧ i = .int .i64 k ∧ Below w.heap.size w wr ∧ Hid (∀ j, j < k * 7 → zs.getD j 0 = ys.getD j 0)) (fun i _ => n - (intOf i).toNat)
    case atStart => exact ⟨0, Nat.zero_le _, rfl, Below.refl _ _, fun j hj => absurd hj (by omega)⟩
    case round =>
      obtain ⟨k, hk, rfl, hbl, hall⟩ := hrel
      by_cases hlt : k < n
      · obtain ⟨b, off, rfl, hb, hcell⟩ := HS.out.at_ (by omega)
        obtain ⟨b', off', rfl, hb', hcell'⟩ := HT.out.at_ (by omega)
        have h0 := hcell (k * 7) (by omega)
        have h1 := hcell (k * 7 + 1) (by omega)
        have h2 := hcell (k * 7 + 2) (by omega)
        have h3 := hcell (k * 7 + 3) (by omega)
        have h4 := hcell (k * 7 + 4) (by omega)
        have h5 := hcell (k * 7 + 5) (by omega)
        have h6 := hcell (k * 7 + 6) (by omega)
        have p0 := hcell' (k * 7) (by omega)
        have p1 := hcell' (k * 7 + 1) (by omega)
        have p2 := hcell' (k * 7 + 2) (by omega)
        have p3 := hcell' (k * 7 + 3) (by omega)
        have p4 := hcell' (k * 7 + 4) (by omega)
        have p5 := hcell' (k * 7 + 5) (by omega)
        have p6 := hcell' (k * 7 + 6) (by omega)
        rw [← hbl.cell (by exact hb)] at h0 h1 h2 h3 h4 h5 h6
        rw [← hbl.cell (by exact hb')] at p0 p1 p2 p3 p4 p5 p6
        simp only [← Nat.add_assoc] at h0 h1 h2 h3 h4 h5 h6 p0 p1 p2 p3 p4 p5 p6
        clear hcell hcell'
        generalize hx0 : zs.getD (k * 7) 0 = x0 at h0
        generalize hx1 : zs.getD (k * 7 + 1) 0 = x1 at h1
        generalize hx2 : zs.getD (k * 7 + 2) 0 = x2 at h2
        generalize hx3 : zs.getD (k * 7 + 3) 0 = x3 at h3
        generalize hx4 : zs.getD (k * 7 + 4) 0 = x4 at h4
        generalize hx5 : zs.getD (k * 7 + 5) 0 = x5 at h5
        generalize hx6 : zs.getD (k * 7 + 6) 0 = x6 at h6
        generalize hy0 : ys.getD (k * 7) 0 = y0 at p0
        generalize hy1 : ys.getD (k * 7 + 1) 0 = y1 at p1
        generalize hy2 : ys.getD (k * 7 + 2) 0 = y2 at p2
        generalize hy3 : ys.getD (k * 7 + 3) 0 = y3 at p3
        generalize hy4 : ys.getD (k * 7 + 4) 0 = y4 at p4
        generalize hy5 : ys.getD (k * 7 + 5) 0 = y5 at p5
        generalize hy6 : ys.getD (k * 7 + 6) 0 = y6 at p6
        have HX := Lib.hid (And.intro (And.intro hx0 (And.intro hx1 (And.intro hx2 (And.intro hx3 (And.intro hx4 (And.intro hx5 hx6)))))) (And.intro hy0 (And.intro hy1 (And.intro hy2 (And.intro hy3 (And.intro hy4 (And.intro hy5 hy6)))))))
        clear hx0 hy0 hx1 hy1 hx2 hy2 hx3 hy3 hx4 hy4 hx5 hy5 hx6 hy6
        have hbr : b < wr.heap.size := Nat.lt_of_lt_of_le hb hbl.size
        have hbr' : b' < wr.heap.size := Nat.lt_of_lt_of_le hb' hbl.size
        rcases Bool.eq_false_or_eq_true (eqL [x0, x1, x2, x3, x4, x5, x6] [y0, y1, y2, y3, y4, y5, y6]) with hq | hq
        · go_wp2
          ((refine wp_region_ext (by kernel_rfl) (by kernel_rfl) ?_); (repeat (any_goals (first | go_big_quiet_step ((go_at_call 68; exact quiet_ext (eqWant_any _ _ _ _ _ _ _ _ _ _ _ _ _ _ _))) | (refine wpQuiet_step (fun K hK => ?_); go_simp; split <;> (refine hK _ ?_; clear hK K)) | quiet_step ((go_at_call 68; exact quiet_ext (eqWant_any _ _ _ _ _ _ _ _ _ _ _ _ _ _ _)))))); (all_goals (refine wpQuiet_nil ?_; rintro _ ⟨z, rfl⟩; have hb' := z.h; generalize z.w = w1 at hb' ⊢; clear z; (first | (have hb2 := bstep hb' hb hb.size; clear hb' hcb hfb hz1 hz2 hz3 hz4 hb; have hb := hb2; clear hb2) | (have hb := hb'; clear hb')); obtain ⟨hcb, hfb, hz1, hz2, hz3, hz4⟩ := bcell hb; (try simp only [World.size_alloc, World.size_setCell, World.size_drew, Nat.lt_add_one_iff, Nat.add_assoc, Nat.reduceAdd] at hz1 hz2 hz3 hz4))))
          go_wp2
          refine ⟨⟨k + 1, by omega, by go_num, bstep hb hbl hbl.size, ?_⟩, by simp [intOf]; omega⟩
          intro j hj
          have hxy := HX.out
          have he := eqL_true hq
          simp only [List.cons.injEq, and_true] at he
          rcases (by omega : j < k * 7 ∨ j = k * 7 ∨ j = k * 7 + 1 ∨ j = k * 7 + 2 ∨ j = k * 7 + 3 ∨ j = k * 7 + 4 ∨ j = k * 7 + 5 ∨ j = k * 7 + 6) with h | h | h | h | h | h | h | h
          · exact hall.out j h
          · rw [h, hxy.1.1, hxy.2.1, he.1]
          · rw [h, hxy.1.2.1, hxy.2.2.1, he.2.1]
          · rw [h, hxy.1.2.2.1, hxy.2.2.2.1, he.2.2.1]
          · rw [h, hxy.1.2.2.2.1, hxy.2.2.2.2.1, he.2.2.2.1]
          · rw [h, hxy.1.2.2.2.2.1, hxy.2.2.2.2.2.1, he.2.2.2.2.1]
          · rw [h, hxy.1.2.2.2.2.2.1, hxy.2.2.2.2.2.2.1, he.2.2.2.2.2.1]
          · rw [h, hxy.1.2.2.2.2.2.2, hxy.2.2.2.2.2.2.2, he.2.2.2.2.2.2]
        · go_wp2
          ((refine wp_region_ext (by kernel_rfl) (by kernel_rfl) ?_); (repeat (any_goals (first | go_big_quiet_step ((go_at_call 68; exact quiet_ext (eqWant_any _ _ _ _ _ _ _ _ _ _ _ _ _ _ _))) | (refine wpQuiet_step (fun K hK => ?_); go_simp; split <;> (refine hK _ ?_; clear hK K)) | quiet_step ((go_at_call 68; exact quiet_ext (eqWant_any _ _ _ _ _ _ _ _ _ _ _ _ _ _ _)))))); (all_goals (refine wpQuiet_nil ?_; rintro _ ⟨z, rfl⟩; have hb' := z.h; generalize z.w = w1 at hb' ⊢; clear z; (first | (have hb2 := bstep hb' hb hb.size; clear hb' hcb hfb hz1 hz2 hz3 hz4 hb; have hb := hb2; clear hb2) | (have hb := hb'; clear hb')); obtain ⟨hcb, hfb, hz1, hz2, hz3, hz4⟩ := bcell hb; (try simp only [World.size_alloc, World.size_setCell, World.size_drew, Nat.lt_add_one_iff, Nat.add_assoc, Nat.reduceAdd] at hz1 hz2 hz3 hz4))))
          go_wp2
          go_ret
          refine ⟨ret_bool (eqL_ne ?_).symm, bstep hb hbl hbl.size⟩
          rintro rfl
          have hxy := HX.out
          exact eqL_false (by rw [hq]; decide) (by simp only [List.cons.injEq, and_true]; exact ⟨hxy.1.1.symm.trans hxy.2.1, hxy.1.2.1.symm.trans hxy.2.2.1, hxy.1.2.2.1.symm.trans hxy.2.2.2.1, hxy.1.2.2.2.1.symm.trans hxy.2.2.2.2.1, hxy.1.2.2.2.2.1.symm.trans hxy.2.2.2.2.2.1, hxy.1.2.2.2.2.2.1.symm.trans hxy.2.2.2.2.2.2.1, hxy.1.2.2.2.2.2.2.symm.trans hxy.2.2.2.2.2.2.2⟩)
      · have hkn : k = n := by omega
        subst hkn
        go_wp2
        go_ret
        have hzy : zs = ys := list_ext_getD (by rw [HS.out.len, HT.out.len]) (fun j hj => hall.out j (by rw [HS.out.len] at hj; omega))
        exact ⟨ret_bool (by rw [hzy]; exact (eqL_self _).symm), hbl⟩
  · have hne : ¬ (n : Int) = (m : Int) := by omega
    have hz : eqL zs ys = false := by
      refine eqL_ne ?_
      rintro rfl
      have h1 := hS.len
      have h2 := hT.len
      omega
    rw [hz]
    clear hz hS hT
    go_enter Try.func29, Try.ntmps29
    go_wp2
    go_ret
    exact ⟨rfl, Below.refl _ _⟩


set_option maxHeartbeats 1600000 in
theorem markWantS_any (lo : Nat) (A : Option Addr) (n cap : Nat) (zs : List Int) (k0 : Int) (w : World) (hR : Row w lo 80 7 A n cap zs) (hn : n ≤ 1048576) (hk0 : 0 ≤ k0) (hk1 : k0 ≤ 1073741824) :
    Calls Try.prog 30 #[.slice A n cap, .int .i64 k0] w (RetMark w lo 80 7 A n cap k0) := by
  by_cases hz : n = 0
  · subst hz
    have hR' : Row w lo 80 7 A 0 cap (marks k0 (0 * 7)) := by
      have hl := hR.len
      have : zs = [] := List.eq_nil_of_length_eq_zero (by omega)
      subst this
      exact hR
    have HR := Lib.hid hR'
    clear hR hR'
    go_enter Try.func30, Try.ntmps30
    go_wp2
    go_loop [1, 5] (fun q i => i = .int .i64 0 ∧ q = .int .i64 k0) (fun _ _ => 0)
    case atStart => exact ⟨rfl, rfl⟩
    case round =>
      obtain ⟨rfl, rfl⟩ := hrel
      go_wp2
      go_ret
      exact RetMark.mk (by simp) HR.out (World.grownBy.refl _ _)
  · obtain ⟨g, cs, rfl, hlo, hblk, hnc, hcm, hcs, _⟩ := hR.blk (by omega)
    have HC := Lib.hid (And.intro hcs (And.intro hnc hcm))
    clear hR hcs hcm hz
    have hnc' : (n : Int) ≤ (cap : Int) := by omega
    go_enter Try.func30, Try.ntmps30
    go_wp2
    go_loopw [1, 5] (fun q i wr => ∃ (k : Nat) (cs : Array Value), k ≤ n ∧ i = .int .i64 k ∧ q = .int .i64 (k0 + (k * 7 : Nat)) ∧ Hid (Wrote w wr (some ⟨g, 0, none⟩)) ∧ Blk wr g 80 cs ∧ Hid (cs.size = cap * 7) ∧ Hid (∀ j, j < k * 7 → cs[j]? = some (.int .i64 (k0 + (j : Int))))) (fun _ i _ => n - (intOf i).toNat)
    case atStart => exact ⟨0, cs, Nat.zero_le _, rfl, by simp, World.grownBy.refl _ _, hblk, HC.out.1, fun j hj => absurd hj (by omega)⟩
    case round =>
      obtain ⟨k, cs', hk, rfl, rfl, hwr, hblk', hcs', hall⟩ := hrel
      by_cases hlt : k < n
      · have _hg := hlt
        obtain ⟨c0, g0⟩ := hblk'.has (i := k * 7) (by have := hcs'.out; have := HC.out.2.1; omega)
        obtain ⟨c1, g1⟩ := hblk'.has (i := k * 7 + 1) (by have := hcs'.out; have := HC.out.2.1; omega)
        obtain ⟨c2, g2⟩ := hblk'.has (i := k * 7 + 2) (by have := hcs'.out; have := HC.out.2.1; omega)
        obtain ⟨c3, g3⟩ := hblk'.has (i := k * 7 + 3) (by have := hcs'.out; have := HC.out.2.1; omega)
        obtain ⟨c4, g4⟩ := hblk'.has (i := k * 7 + 4) (by have := hcs'.out; have := HC.out.2.1; omega)
        obtain ⟨c5, g5⟩ := hblk'.has (i := k * 7 + 5) (by have := hcs'.out; have := HC.out.2.1; omega)
        obtain ⟨c6, g6⟩ := hblk'.has (i := k * 7 + 6) (by have := hcs'.out; have := HC.out.2.1; omega)
        have f0 := hblk'.frozen (k * 7)
        have f1 := hblk'.frozen (k * 7 + 1)
        have f2 := hblk'.frozen (k * 7 + 2)
        have f3 := hblk'.frozen (k * 7 + 3)
        have f4 := hblk'.frozen (k * 7 + 4)
        have f5 := hblk'.frozen (k * 7 + 5)
        have f6 := hblk'.frozen (k * 7 + 6)
        go_wp2
        refine ⟨⟨k + 1, _, by omega, by go_num, congrArg (Value.int .i64) (by omega), ?_, (((((((hblk'.set_ _ _).set_ _ _).set_ _ _).set_ _ _).set_ _ _).set_ _ _).set_ _ _), ?_, ?_⟩, by simp [intOf]; omega⟩
        · exact (wrote_set (p := ⟨g, k * 7 + 6, none⟩) (wrote_set (p := ⟨g, k * 7 + 5, none⟩) (wrote_set (p := ⟨g, k * 7 + 4, none⟩) (wrote_set (p := ⟨g, k * 7 + 3, none⟩) (wrote_set (p := ⟨g, k * 7 + 2, none⟩) (wrote_set (p := ⟨g, k * 7 + 1, none⟩) (wrote_set (p := ⟨g, k * 7, none⟩) hwr.out rfl _) rfl _) rfl _) rfl _) rfl _) rfl _) rfl _)
        · show Array.size _ = _
          simp only [Array.size_setIfInBounds]
          exact hcs'.out
        · intro j hj
          have hcsz := hcs'.out
          have hnc := HC.out.2.1
          simp only [Array.getElem?_setIfInBounds, Array.size_setIfInBounds]
          rcases (by omega : j < k * 7 ∨ j = k * 7 ∨ j = k * 7 + 1 ∨ j = k * 7 + 2 ∨ j = k * 7 + 3 ∨ j = k * 7 + 4 ∨ j = k * 7 + 5 ∨ j = k * 7 + 6) with h | h | h | h | h | h | h | h
          · rw [if_neg (by omega), if_neg (by omega), if_neg (by omega), if_neg (by omega), if_neg (by omega), if_neg (by omega), if_neg (by omega)]
            exact hall.out j h
          · rw [if_neg (by omega), if_neg (by omega), if_neg (by omega), if_neg (by omega), if_neg (by omega), if_neg (by omega), if_pos (by omega), if_pos (by omega), h]
            try exact congrArg (fun z => some (Value.int .i64 z)) (by omega)
          · rw [if_neg (by omega), if_neg (by omega), if_neg (by omega), if_neg (by omega), if_neg (by omega), if_pos (by omega), if_pos (by omega), h]
            try exact congrArg (fun z => some (Value.int .i64 z)) (by omega)
          · rw [if_neg (by omega), if_neg (by omega), if_neg (by omega), if_neg (by omega), if_pos (by omega), if_pos (by omega), h]
            try exact congrArg (fun z => some (Value.int .i64 z)) (by omega)
          · rw [if_neg (by omega), if_neg (by omega), if_neg (by omega), if_pos (by omega), if_pos (by omega), h]
            try exact congrArg (fun z => some (Value.int .i64 z)) (by omega)
          · rw [if_neg (by omega), if_neg (by omega), if_pos (by omega), if_pos (by omega), h]
            try exact congrArg (fun z => some (Value.int .i64 z)) (by omega)
          · rw [if_neg (by omega), if_pos (by omega), if_pos (by omega), h]
            try exact congrArg (fun z => some (Value.int .i64 z)) (by omega)
          · rw [if_pos (by omega), if_pos (by omega), h]
            try exact congrArg (fun z => some (Value.int .i64 z)) (by omega)
      · have hkn : k = n := by omega
        subst hkn
        go_wp2
        go_ret
        refine RetMark.mk (by omega) (Row.of_blk hblk' hlo HC.out.2.1 HC.out.2.2 hcs'.out (marks_length _ _) (fun j hj => ?_)) hwr.out
        rw [marks_getD _ _ _ hj]
        exact hall.out j (by omega)

set_option maxHeartbeats 1600000 in
theorem heldWantS_any (A : Option Addr) (n cap : Nat) (k0 : Int) (w : World) (hS : Sl w 7 A n (marks k0 (n * 7))) (hn : n ≤ 1048576) (hk0 : 0 ≤ k0) (hk1 : k0 ≤ 1073741824) :
    Calls Try.prog 70 #[.slice A n cap, .int .i64 k0] w fun e w' => e = .returned (.int .i64 (k0 + (n * 7 : Nat))) ∧ w = w' := by
  have HS := Lib.hid hS
  clear hS
  go_enter Try.func70, Try.ntmps70
  go_wp2
  go_loop [1, 5] (fun q i => ∃ (k : Nat), k ≤ n ∧ i = .int .i64 k ∧ q = .int .i64 (k0 + (k * 7 : Nat))) (fun _ i => n - (intOf i).toNat)
  case atStart => exact ⟨0, Nat.zero_le _, rfl, by simp⟩
  case round =>
    obtain ⟨k, hk, rfl, rfl⟩ := hrel
    by_cases hlt : k < n
    · obtain ⟨b, off, rfl, hb, hcell⟩ := HS.out.at_ (by omega)
      have h0 := hcell (k * 7) (by omega)
      have h1 := hcell (k * 7 + 1) (by omega)
      have h2 := hcell (k * 7 + 2) (by omega)
      have h3 := hcell (k * 7 + 3) (by omega)
      have h4 := hcell (k * 7 + 4) (by omega)
      have h5 := hcell (k * 7 + 5) (by omega)
      have h6 := hcell (k * 7 + 6) (by omega)
      rw [marks_getD _ _ _ (by omega)] at h0 h1 h2 h3 h4 h5 h6
      simp only [← Nat.add_assoc] at h0 h1 h2 h3 h4 h5 h6
      clear hcell
      go_wp2
      exact ⟨⟨k + 1, by omega, by go_num, congrArg (Value.int .i64) (by omega)⟩, by simp [intOf]; omega⟩
    · have hkn : k = n := by omega
      subst hkn
      go_wp2
      go_ret
      exact ⟨ret_int (by omega), rfl⟩
end Go.Proofs.Ytbcpcddmekoaeaa

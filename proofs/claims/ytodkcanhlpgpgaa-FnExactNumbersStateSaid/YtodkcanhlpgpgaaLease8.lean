/- Contracts on leases: RowLease. -/
import Derived.Test.YtodkcanhlpgpgaaLease7
import Derived.Test.YtodkcanhlpgpgaaFlat
import Derived.Deep.RegionHeld3
namespace Go.Proofs.Ytodkcanhlpgpgaa
set_option linter.unusedSimpArgs false
set_option linter.unusedVariables false
attribute [local go_sem] n_lt2 n_lt3 n_lt4 n_le2 n_le3
open Go.RowKit
attribute [local go_sem] Ext.cell Ext.frozen

set_option maxHeartbeats 1000000 in
theorem specRowLease_any (A : Option Addr) (n cap : Nat) (zs : List Int) (w : World) (hS : Sl w 1 A n zs) (hn : n ≤ maxLen) :
    Calls Try.prog 73 #[.slice A n cap] w (RetLease w (rowLeaseL zs)) := by
  unfold maxLen at hn
  by_cases h3 : n = 3
  · subst h3
    obtain ⟨x, y, z, rfl⟩ := len3 (show zs.length = 3 from hS.len)
    obtain ⟨b, off, rfl, hb0, hcell⟩ := hS.at_ (by decide)
    have c0 := hcell 0 (by decide)
    have c1 := hcell 1 (by decide)
    have c2 := hcell 2 (by decide)
    clear hcell hS
    simp only [Nat.add_zero, List.getD_cons_zero, List.getD_cons_succ] at c0 c1 c2
    by_cases hl : leaseB x y z = true
    · have hv : rowLeaseL [x, y, z] = ((x, y, z), true) := by unfold rowLeaseL; simp [hl]
      rw [hv]; clear hv
      go_enter Try.func73, Try.ntmps73
      go_wp2
      go_region_held3 (fun w' => w'.cell? ⟨b, off, none⟩ = some (.int .i64 x) ∧ w'.cell? ⟨b, off + 1, none⟩ = some (.int .i64 y) ∧ w'.cell? ⟨b, off + 2, none⟩ = some (.int .i64 z)) (go_keep) (fail)
      go_wp2_with ((go_at_call 41; refine (specLeaseOk_any _ _ _ _).mono ?_; rintro e w1 ⟨rfl, hb'⟩; (first | (have hb2 := bstep hb' hb hb.size; clear hb' hcb hfb hz1 hz2 hz3 hz4 hb; have hb := hb2; clear hb2) | (have hb := hb'; clear hb')); obtain ⟨hcb, hfb, hz1, hz2, hz3, hz4⟩ := bcell hb; (try simp only [World.size_alloc, World.size_setCell, World.size_drew, Nat.lt_add_one_iff, Nat.add_assoc, Nat.reduceAdd] at hz1 hz2 hz3 hz4); (have q0x0 := hcb w.heap.size 0 (by simp <;> omega)); (simp [go_sem] at q0x0); (have q0x1 := hcb w.heap.size 1 (by simp <;> omega)); (simp [go_sem] at q0x1); (have q0x2 := hcb w.heap.size 2 (by simp <;> omega)); (simp [go_sem] at q0x2); (have q1x0 := hcb (w.heap.size + 1) 0 (by simp <;> omega)); (simp [go_sem] at q1x0); (have q1x1 := hcb (w.heap.size + 1) 1 (by simp <;> omega)); (simp [go_sem] at q1x1); (have q1x2 := hcb (w.heap.size + 1) 2 (by simp <;> omega)); (simp [go_sem] at q1x2)))
      refine bodyPost_ret (v := .tuple #[.agg #[.int .i64 (x), .int .i64 (y), .int .i64 (z)], .bool true]) (by simp [results, Try.results73, go_sem, *]) rfl ⟨rfl, by (repeat' (first | (with_reducible exact Below.refl _ _) | (with_reducible assumption) | (with_reducible refine Below.alloc ?_ ?_ _) | (with_reducible refine Below.drew ?_) | (with_reducible refine Below.setCell ?_ ?_ _) | (with_reducible refine bstep (by assumption) ?_ ?_) | (with_reducible exact Nat.le_refl _) | omega | (simp [*]; done) | (simp [*]; omega)))⟩
    · have hv : rowLeaseL [x, y, z] = ((0, 0, 0), false) := by unfold rowLeaseL; simp [hl]
      rw [hv]; clear hv
      have hl' : leaseB x y z = false := by simpa using hl
      clear hl
      go_enter Try.func73, Try.ntmps73
      go_wp2
      go_region_held3 (fun w' => w'.cell? ⟨b, off, none⟩ = some (.int .i64 x) ∧ w'.cell? ⟨b, off + 1, none⟩ = some (.int .i64 y) ∧ w'.cell? ⟨b, off + 2, none⟩ = some (.int .i64 z)) (go_keep) (fail)
      go_wp2_with ((go_at_call 41; refine (specLeaseOk_any _ _ _ _).mono ?_; rintro e w1 ⟨rfl, hb'⟩; (first | (have hb2 := bstep hb' hb hb.size; clear hb' hcb hfb hz1 hz2 hz3 hz4 hb; have hb := hb2; clear hb2) | (have hb := hb'; clear hb')); obtain ⟨hcb, hfb, hz1, hz2, hz3, hz4⟩ := bcell hb; (try simp only [World.size_alloc, World.size_setCell, World.size_drew, Nat.lt_add_one_iff, Nat.add_assoc, Nat.reduceAdd] at hz1 hz2 hz3 hz4); (have q0x0 := hcb w.heap.size 0 (by simp <;> omega)); (simp [go_sem] at q0x0); (have q0x1 := hcb w.heap.size 1 (by simp <;> omega)); (simp [go_sem] at q0x1); (have q0x2 := hcb w.heap.size 2 (by simp <;> omega)); (simp [go_sem] at q0x2); (have q1x0 := hcb (w.heap.size + 1) 0 (by simp <;> omega)); (simp [go_sem] at q1x0); (have q1x1 := hcb (w.heap.size + 1) 1 (by simp <;> omega)); (simp [go_sem] at q1x1); (have q1x2 := hcb (w.heap.size + 1) 2 (by simp <;> omega)); (simp [go_sem] at q1x2)))
      refine bodyPost_ret (v := .tuple #[.agg #[.int .i64 (0), .int .i64 (0), .int .i64 (0)], .bool false]) (by simp [results, Try.results73, go_sem, *]) rfl ⟨rfl, by (repeat' (first | (with_reducible exact Below.refl _ _) | (with_reducible assumption) | (with_reducible refine Below.alloc ?_ ?_ _) | (with_reducible refine Below.drew ?_) | (with_reducible refine Below.setCell ?_ ?_ _) | (with_reducible refine bstep (by assumption) ?_ ?_) | (with_reducible exact Nat.le_refl _) | omega | (simp [*]; done) | (simp [*]; omega)))⟩
  · have hv : rowLeaseL zs = ((0, 0, 0), false) := by
      have := hS.len
      unfold rowLeaseL
      rw [if_neg (by omega)]
    rw [hv]; clear hv
    have h3' : ((n : Int) != 3) = true := by rw [bne_iff_ne]; omega
    clear hS
    go_enter Try.func73, Try.ntmps73
    go_wp2
    refine bodyPost_ret (v := .tuple #[.agg #[.int .i64 (0), .int .i64 (0), .int .i64 (0)], .bool false]) (by simp [results, Try.results73, go_sem, *]) rfl ⟨rfl, by (repeat' (first | (with_reducible exact Below.refl _ _) | (with_reducible assumption) | (with_reducible refine Below.alloc ?_ ?_ _) | (with_reducible refine Below.drew ?_) | (with_reducible refine Below.setCell ?_ ?_ _) | (with_reducible refine bstep (by assumption) ?_ ?_) | (with_reducible exact Nat.le_refl _) | omega | (simp [*]; done) | (simp [*]; omega)))⟩
end Go.Proofs.Ytodkcanhlpgpgaa

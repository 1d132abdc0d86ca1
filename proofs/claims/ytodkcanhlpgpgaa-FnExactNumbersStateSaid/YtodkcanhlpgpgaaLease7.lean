/- Contracts on leases: LeaseRow, RowLease. -/
import Derived.Test.YtodkcanhlpgpgaaLease2
import Derived.Test.YtodkcanhlpgpgaaMem
namespace Go.Proofs.Ytodkcanhlpgpgaa
set_option linter.unusedSimpArgs false
set_option linter.unusedVariables false
attribute [local go_sem] n_lt2 n_lt3 n_lt4 n_le2 n_le3
open Go.RowKit
attribute [local go_sem] Ext.cell Ext.frozen

def leaseRowL (h e u : Int) : List Int := if leaseB h e u = true then [h, e, u] else []
theorem leaseRowL_len (h e u : Int) : (leaseRowL h e u).length ≤ 3 := by unfold leaseRowL; split <;> simp
def rowLeaseL (zs : List Int) : (Int × Int × Int) × Bool :=
  if zs.length = 3 then (if leaseB (zs.getD 0 0) (zs.getD 1 0) (zs.getD 2 0) = true then ((zs.getD 0 0, zs.getD 1 0, zs.getD 2 0), true) else ((0, 0, 0), false)) else ((0, 0, 0), false)
/-- What RowLease hands back. -/
def RetLease (w : World) (g : (Int × Int × Int) × Bool) (e : Ending) (w' : World) : Prop := e = .returned (.tuple #[.agg #[.int .i64 g.1.1, .int .i64 g.1.2.1, .int .i64 g.1.2.2], .bool g.2]) ∧ Below w.heap.size w w'

theorem row3 {w : World} {g lo : Nat} {E : TypeId} {a b c : Int} (h : Blk w g E #[.int .i64 a, .int .i64 b, .int .i64 c]) (hlo : lo ≤ g) : Row w lo E 1 (some ⟨g, 0, none⟩) 3 3 [a, b, c] :=
  h.row hlo (by simp [maxLen]) rfl rfl (fun j hj => by rcases (by omega : j = 0 ∨ j = 1 ∨ j = 2) with rfl | rfl | rfl <;> rfl)
theorem row0 {w : World} {g lo : Nat} {E : TypeId} (h : Blk w g E #[]) (hlo : lo ≤ g) : Row w lo E 1 (some ⟨g, 0, none⟩) 0 0 [] :=
  h.row hlo (by simp [maxLen]) rfl rfl (fun j hj => absurd hj (by omega))

set_option maxHeartbeats 400000 in
theorem specLeaseRow_any (h e u : Int) (w : World) :
    Calls Try.prog 65 #[.agg #[.int .i64 h, .int .i64 e, .int .i64 u]] w (RetRow w 2 1 (leaseRowL h e u).length (leaseRowL h e u)) := by
  by_cases h1 : leaseB h e u = true
  · have hv : leaseRowL h e u = [h, e, u] := by unfold leaseRowL; rw [if_pos h1]
    rw [hv]; clear hv
    go_enter Try.func65, Try.ntmps65
    go_wp2_with ((go_at_call 41; refine (specLeaseOk_any _ _ _ _).mono ?_; rintro e w1 ⟨rfl, hb'⟩; (first | (have hb2 := bstep hb' hb hb.size; clear hb' hcb hfb hz1 hz2 hz3 hz4 hb; have hb := hb2; clear hb2) | (have hb := hb'; clear hb')); obtain ⟨hcb, hfb, hz1, hz2, hz3, hz4⟩ := bcell hb; (try simp only [World.size_alloc, World.size_setCell, World.size_drew, Nat.lt_add_one_iff, Nat.add_assoc, Nat.reduceAdd] at hz1 hz2 hz3 hz4)))
    go_ret
    exact RetRow.mk (row3 (Blk.new _ _ _) (by have := hb.size; simp at this; omega)) (by (repeat' (first | (with_reducible exact Below.refl _ _) | (with_reducible assumption) | (with_reducible refine Below.alloc ?_ ?_ _) | (with_reducible refine Below.drew ?_) | (with_reducible refine Below.setCell ?_ ?_ _) | (with_reducible refine bstep (by assumption) ?_ ?_) | (with_reducible exact Nat.le_refl _) | omega | (simp [*]; done) | (simp [*]; omega))))
  · have hv : leaseRowL h e u = [] := by unfold leaseRowL; rw [if_neg h1]
    rw [hv]; clear hv
    go_enter Try.func65, Try.ntmps65
    go_wp2_with ((go_at_call 41; refine (specLeaseOk_any _ _ _ _).mono ?_; rintro e w1 ⟨rfl, hb'⟩; (first | (have hb2 := bstep hb' hb hb.size; clear hb' hcb hfb hz1 hz2 hz3 hz4 hb; have hb := hb2; clear hb2) | (have hb := hb'; clear hb')); obtain ⟨hcb, hfb, hz1, hz2, hz3, hz4⟩ := bcell hb; (try simp only [World.size_alloc, World.size_setCell, World.size_drew, Nat.lt_add_one_iff, Nat.add_assoc, Nat.reduceAdd] at hz1 hz2 hz3 hz4)))
    go_ret
    exact RetRow.mk (row0 (Blk.new _ _ _) (by have := hb.size; simp at this; omega)) (by (repeat' (first | (with_reducible exact Below.refl _ _) | (with_reducible assumption) | (with_reducible refine Below.alloc ?_ ?_ _) | (with_reducible refine Below.drew ?_) | (with_reducible refine Below.setCell ?_ ?_ _) | (with_reducible refine bstep (by assumption) ?_ ?_) | (with_reducible exact Nat.le_refl _) | omega | (simp [*]; done) | (simp [*]; omega))))
end Go.Proofs.Ytodkcanhlpgpgaa

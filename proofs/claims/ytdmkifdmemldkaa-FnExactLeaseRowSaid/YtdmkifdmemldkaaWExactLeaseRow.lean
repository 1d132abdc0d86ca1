/- The walk of the law FnExactLeaseRow. -/
import Derived.Test.YtdmkifdmemldkaaLease7
import Derived.Test.YtdmkifdmemldkaaSInt64
namespace Go.Proofs.Ytdmkifdmemldkaa
set_option linter.unusedSimpArgs false
set_option linter.unusedVariables false
attribute [local go_sem] n_lt2 n_lt3 n_lt4 n_le2 n_le3
open Go.RowKit
attribute [local go_sem] Ext.cell Ext.frozen

set_option maxHeartbeats 2000000 in
theorem law_ExactLeaseRow (h e u : Int) (w : World) :
    Calls Try.prog 9 #[.agg #[.int .i64 h, .int .i64 e, .int .i64 u]] w fun e' w' => e' = .returned (.bool true) ∧ Below w.heap.size w w' := by
  have hl3 := leaseRowL_len h e u
  have hm : (leaseRowL h e u).length ≤ maxLen := by simp only [maxLen]; omega
  have hn : (leaseRowL h e u).length ≤ 1048576 := by omega
  have he := eqL_self (leaseRowL h e u)
  go_enter Try.func9, Try.ntmps9
  go_wp2_with fail
  obtain ⟨W0, hW0⟩ : ∃ W0 : World, W0 = (w.alloc (.cells #[.int .i64 h, .int .i64 e, .int .i64 u] 29)) := ⟨_, rfl⟩
  rw [← hW0]
  have B0 : Below w.heap.size w W0 := by rw [hW0]; (repeat' (first | (with_reducible exact Below.refl _ _) | (with_reducible assumption) | (with_reducible refine Below.alloc ?_ ?_ _) | (with_reducible refine Below.drew ?_) | (with_reducible refine Below.setCell ?_ ?_ _) | (with_reducible refine bstep (by assumption) ?_ ?_) | (with_reducible exact Nat.le_refl _) | omega | (simp [*]; done) | (simp [*]; omega)))
  have s0x0 : w.heap.size < W0.heap.size := by rw [hW0]; simp
  have k0x0 : W0.cell? ⟨w.heap.size, 0, none⟩ = some (.int .i64 h) := by rw [hW0]; simp [go_sem]
  have k0x1 : W0.cell? ⟨w.heap.size, 1, none⟩ = some (.int .i64 e) := by rw [hW0]; simp [go_sem]
  have k0x2 : W0.cell? ⟨w.heap.size, 2, none⟩ = some (.int .i64 u) := by rw [hW0]; simp [go_sem]
  clear hW0
  refine (toLease_any h e u _).mono ?_
  rintro e w1 ⟨rfl, b1⟩
  have F_1 := b1
  obtain ⟨hcb, hfb, _⟩ := bcell F_1
  go_wp2_with fail
  refine (specLeaseRow_any h e u _).mono ?_
  rintro e w2 ⟨A_y, c_y, rfl, R_y, b2⟩
  have G_y : W0.heap.size ≤ w1.heap.size := F_1.size
  have F_2 := bthen F_1 b2
  have y_2 := R_y
  clear R_y
  clear hcb hfb
  obtain ⟨hcb, hfb, _⟩ := bcell F_2
  go_wp2_with fail
  refine (toLease_any h e u _).mono ?_
  rintro e w3 ⟨rfl, b3⟩
  have y_3 := y_2.below b3
  clear y_2
  have F_3 := bthen F_2 b3
  clear hcb hfb
  obtain ⟨hcb, hfb, _⟩ := bcell F_3
  go_wp2_with fail
  refine (LeaseRow_any h e u _).mono ?_
  rintro e w4 ⟨A_g, c_g, rfl, R_g, b4⟩
  have L_y_g := y_3.lt
  have G_g : W0.heap.size ≤ w3.heap.size := F_3.size
  have y_4 := y_3.below b4
  clear y_3
  have F_4 := bthen F_3 b4
  have g_4 := R_g
  clear R_g
  clear hcb hfb
  obtain ⟨hcb, hfb, _⟩ := bcell F_4
  go_wp2_with fail
  refine (eqInt64S_any A_g A_y (leaseRowL h e u).length (leaseRowL h e u).length c_g c_y (leaseRowL h e u) (leaseRowL h e u) _ g_4.sl y_4.sl hm hm).mono ?_
  rintro e w5 ⟨rfl, b5⟩
  have y_5 := y_4.below b5
  clear y_4
  have g_5 := g_4.below b5
  clear g_4
  have F_5 := bthen F_4 b5
  clear hcb hfb
  obtain ⟨hcb, hfb, _⟩ := bcell F_5
  go_wp2_with fail
  refine (markInt64S_any _ A_g (leaseRowL h e u).length c_g _ 1 _ g_5 hn (by omega) (by omega)).mono ?_
  rintro e w6 ⟨rfl, R_g, hw6⟩
  have F_6 := hw6.below F_5 F_5.size (fun y hy => Nat.le_trans G_g (g_5.ge y hy))
  have y_6 := y_5.wrote hw6 (apart_of L_y_g g_5.ge)
  clear y_5
  have g_6 := R_g
  clear R_g g_5
  clear hcb hfb
  obtain ⟨hcb, hfb, _⟩ := bcell F_6
  go_wp2_with fail
  refine (heldInt64S_any A_g (leaseRowL h e u).length c_g 1 _ g_6.sl hn (by omega) (by omega)).mono ?_
  rintro e w' ⟨rfl, rfl⟩
  go_wp2_with fail
  refine (toLease_any h e u _).mono ?_
  rintro e w7 ⟨rfl, b7⟩
  have y_7 := y_6.below b7
  clear y_6
  have g_7 := g_6.below b7
  clear g_6
  have F_7 := bthen F_6 b7
  clear hcb hfb
  obtain ⟨hcb, hfb, _⟩ := bcell F_7
  go_wp2_with fail
  refine (LeaseRow_any h e u _).mono ?_
  rintro e w8 ⟨A_h, c_h, rfl, R_h, b8⟩
  have L_y_h := y_7.lt
  have L_g_h := g_7.lt
  have G_h : W0.heap.size ≤ w7.heap.size := F_7.size
  have y_8 := y_7.below b8
  clear y_7
  have g_8 := g_7.below b8
  clear g_7
  have F_8 := bthen F_7 b8
  have h_8 := R_h
  clear R_h
  clear hcb hfb
  obtain ⟨hcb, hfb, _⟩ := bcell F_8
  go_wp2_with fail
  refine (eqInt64S_any A_h A_y (leaseRowL h e u).length (leaseRowL h e u).length c_h c_y (leaseRowL h e u) (leaseRowL h e u) _ h_8.sl y_8.sl hm hm).mono ?_
  rintro e w9 ⟨rfl, b9⟩
  have y_9 := y_8.below b9
  clear y_8
  have g_9 := g_8.below b9
  clear g_8
  have h_9 := h_8.below b9
  clear h_8
  have F_9 := bthen F_8 b9
  clear hcb hfb
  obtain ⟨hcb, hfb, _⟩ := bcell F_9
  go_wp2_with fail
  refine (heldInt64S_any A_g (leaseRowL h e u).length c_g 1 _ g_9.sl hn (by omega) (by omega)).mono ?_
  rintro e w' ⟨rfl, rfl⟩
  go_wp2
  go_ret
  exact ⟨rfl, bstep F_9 B0 B0.size⟩
end Go.Proofs.Ytdmkifdmemldkaa

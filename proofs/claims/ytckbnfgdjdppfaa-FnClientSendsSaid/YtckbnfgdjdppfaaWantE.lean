/- Wants: the comparison of two as one run equation; slices.Equal over them. -/
import Derived.Test.YtckbnfgdjdppfaaC1
import Derived.Test.YtckbnfgdjdppfaaBk
import Derived.Laws.StructEq
namespace Go.Proofs.Ytckbnfgdjdppfaa
set_option linter.unusedSimpArgs false
set_option linter.unusedVariables false
attribute [local go_sem] n_lt2 n_lt3 n_lt4 n_le2 n_le3
open Go.RowKit
set_option maxRecDepth 20000 in
theorem want_eql (x0 x1 x2 x3 x4 x5 x6 y0 y1 y2 y3 y4 y5 y6 : Int) (w : World) :
    (binOp .eql 45 (.agg #[.int .i64 x0, .int .i64 x1, .int .i64 x2, .int .i64 x3, .int .i64 x4, .int .i64 x5, .int .i64 x6]) (.agg #[.int .i64 y0, .int .i64 y1, .int .i64 y2, .int .i64 y3, .int .i64 y4, .int .i64 y5, .int .i64 y6])).run Try.prog w = .ok (.bool (eqL [x0, x1, x2, x3, x4, x5, x6] [y0, y1, y2, y3, y4, y5, y6])) w := by
  have hS : Try.prog.underlying 45 = some (.struct (Try.prog.fieldsOf 45)) := by kernel_rfl
  have hp : Try.prog.stoodInHeld 45 = false := by kernel_rfl
  have hp2 : Try.prog.stoodInHeld 43 = false := by kernel_rfl
  rw [run_eql_struct, show (10000 : Nat) = 9999 + 1 from rfl, run_equalIn_agg w 9999 45 _ _ hS hp]
  simp only [Program.fieldsOf, Try.underlying45]
  clear hS hp
  have hA := Try.isAgg43
  have hZ := Try.sizeOf43
  have hU := Try.underlying43
  go_simp
  clear hp2 hA hZ hU
  by_cases h : [x0, x1, x2, x3, x4, x5, x6] = [y0, y1, y2, y3, y4, y5, y6]
  · rw [h, eqL_self]
    simp only [List.cons.injEq, and_true] at h
    obtain ⟨rfl, rfl, rfl, rfl, rfl, rfl, rfl⟩ := h
    simp
  · rw [eqL_ne h]
    simp only [List.cons.injEq, and_true, not_and] at h
    repeat' split
    all_goals first | rfl | (exfalso; simp_all; done)
set_option maxRecDepth 20000 in
theorem want_neq (x0 x1 x2 x3 x4 x5 x6 y0 y1 y2 y3 y4 y5 y6 : Int) (w : World) :
    (binOp .neq 45 (.agg #[.int .i64 x0, .int .i64 x1, .int .i64 x2, .int .i64 x3, .int .i64 x4, .int .i64 x5, .int .i64 x6]) (.agg #[.int .i64 y0, .int .i64 y1, .int .i64 y2, .int .i64 y3, .int .i64 y4, .int .i64 y5, .int .i64 y6])).run Try.prog w = .ok (.bool (!eqL [x0, x1, x2, x3, x4, x5, x6] [y0, y1, y2, y3, y4, y5, y6])) w := by
  have hS : Try.prog.underlying 45 = some (.struct (Try.prog.fieldsOf 45)) := by kernel_rfl
  have hp : Try.prog.stoodInHeld 45 = false := by kernel_rfl
  have hp2 : Try.prog.stoodInHeld 43 = false := by kernel_rfl
  rw [run_neq_struct, show (10000 : Nat) = 9999 + 1 from rfl, run_equalIn_agg w 9999 45 _ _ hS hp]
  simp only [Program.fieldsOf, Try.underlying45]
  clear hS hp
  have hA := Try.isAgg43
  have hZ := Try.sizeOf43
  have hU := Try.underlying43
  go_simp
  clear hp2 hA hZ hU
  by_cases h : [x0, x1, x2, x3, x4, x5, x6] = [y0, y1, y2, y3, y4, y5, y6]
  · rw [h, eqL_self]
    simp only [List.cons.injEq, and_true] at h
    obtain ⟨rfl, rfl, rfl, rfl, rfl, rfl, rfl⟩ := h
    simp
  · rw [eqL_ne h]
    simp only [List.cons.injEq, and_true, not_and] at h
    repeat' split
    all_goals first | rfl | (exfalso; simp_all; done)
attribute [local go_sem] Ext.cell Ext.frozen
theorem list7 {zs ys : List Int} {k : Nat} {x0 x1 x2 x3 x4 x5 x6 y0 y1 y2 y3 y4 y5 y6 : Int} (hx : zs.getD (k * 7) 0 = x0 ∧ zs.getD (k * 7 + 1) 0 = x1 ∧ zs.getD (k * 7 + 2) 0 = x2 ∧ zs.getD (k * 7 + 3) 0 = x3 ∧ zs.getD (k * 7 + 4) 0 = x4 ∧ zs.getD (k * 7 + 5) 0 = x5 ∧ zs.getD (k * 7 + 6) 0 = x6) (hy : ys.getD (k * 7) 0 = y0 ∧ ys.getD (k * 7 + 1) 0 = y1 ∧ ys.getD (k * 7 + 2) 0 = y2 ∧ ys.getD (k * 7 + 3) 0 = y3 ∧ ys.getD (k * 7 + 4) 0 = y4 ∧ ys.getD (k * 7 + 5) 0 = y5 ∧ ys.getD (k * 7 + 6) 0 = y6) (h : eqL [x0, x1, x2, x3, x4, x5, x6] [y0, y1, y2, y3, y4, y5, y6] = true) : ∀ j, k * 7 ≤ j → j < k * 7 + 7 → zs.getD j 0 = ys.getD j 0 := by
  have he := eqL_true h
  simp only [List.cons.injEq, and_true] at he
  obtain ⟨e0, e1, e2, e3, e4, e5, e6⟩ := he
  obtain ⟨a0, a1, a2, a3, a4, a5, a6⟩ := hx
  obtain ⟨b0, b1, b2, b3, b4, b5, b6⟩ := hy
  intro j h1 h2
  rcases (by omega : j = k * 7 ∨ j = k * 7 + 1 ∨ j = k * 7 + 2 ∨ j = k * 7 + 3 ∨ j = k * 7 + 4 ∨ j = k * 7 + 5 ∨ j = k * 7 + 6) with r | r | r | r | r | r | r <;> subst r
  · rw [a0, b0, e0]
  · rw [a1, b1, e1]
  · rw [a2, b2, e2]
  · rw [a3, b3, e3]
  · rw [a4, b4, e4]
  · rw [a5, b5, e5]
  · rw [a6, b6, e6]
theorem list7_ne {zs ys : List Int} {k : Nat} {x0 x1 x2 x3 x4 x5 x6 y0 y1 y2 y3 y4 y5 y6 : Int} (hx : zs.getD (k * 7) 0 = x0 ∧ zs.getD (k * 7 + 1) 0 = x1 ∧ zs.getD (k * 7 + 2) 0 = x2 ∧ zs.getD (k * 7 + 3) 0 = x3 ∧ zs.getD (k * 7 + 4) 0 = x4 ∧ zs.getD (k * 7 + 5) 0 = x5 ∧ zs.getD (k * 7 + 6) 0 = x6) (hy : ys.getD (k * 7) 0 = y0 ∧ ys.getD (k * 7 + 1) 0 = y1 ∧ ys.getD (k * 7 + 2) 0 = y2 ∧ ys.getD (k * 7 + 3) 0 = y3 ∧ ys.getD (k * 7 + 4) 0 = y4 ∧ ys.getD (k * 7 + 5) 0 = y5 ∧ ys.getD (k * 7 + 6) 0 = y6) (h : eqL [x0, x1, x2, x3, x4, x5, x6] [y0, y1, y2, y3, y4, y5, y6] = false) : zs ≠ ys := by
  rintro rfl
  obtain ⟨a0, a1, a2, a3, a4, a5, a6⟩ := hx
  obtain ⟨b0, b1, b2, b3, b4, b5, b6⟩ := hy
  have : [x0, x1, x2, x3, x4, x5, x6] = [y0, y1, y2, y3, y4, y5, y6] := by rw [← a0, ← a1, ← a2, ← a3, ← a4, ← a5, ← a6, b0, b1, b2, b3, b4, b5, b6]
  rw [this, eqL_self] at h
  exact absurd h (by decide)
end Go.Proofs.Ytckbnfgdjdppfaa

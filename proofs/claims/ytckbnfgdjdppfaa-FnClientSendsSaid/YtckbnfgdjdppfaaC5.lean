/- Clients: SameClient, the program's and the reference's. -/
import Derived.Test.YtckbnfgdjdppfaaC2
import Derived.Test.YtckbnfgdjdppfaaWantE
import Derived.Test.YtckbnfgdjdppfaaSGot
namespace Go.Proofs.Ytckbnfgdjdppfaa
set_option linter.unusedSimpArgs false
set_option linter.unusedVariables false
attribute [local go_sem] n_lt2 n_lt3 n_lt4 n_le2 n_le3
open Go.RowKit
def sameClientB (i0 : Int) (wl : List Wt) (gl : List Gt) (t0 : Int) (j0 : Int) (xl : List Wt) (yl : List Gt) (u0 : Int) : Bool := (i0 == j0) && (eqL (WT wl) (WT xl) && (eqL (GT gl) (GT yl) && (t0 == u0)))
set_option maxRecDepth 20000 in
theorem got_neq (x0 x1 x2 x3 y0 y1 y2 y3 : Int) (w : World) :
    (binOp .neq 75 (.agg #[.int .i64 x0, .int .i64 x1, .int .i64 x2, .int .i64 x3]) (.agg #[.int .i64 y0, .int .i64 y1, .int .i64 y2, .int .i64 y3])).run Try.prog w = .ok (.bool (!eqL [x0, x1, x2, x3] [y0, y1, y2, y3])) w := by
  have hS : Try.prog.underlying 75 = some (.struct (Try.prog.fieldsOf 75)) := by kernel_rfl
  have hp : Try.prog.stoodInHeld 75 = false := by kernel_rfl
  rw [run_neq_struct, show (10000 : Nat) = 9999 + 1 from rfl, run_equalIn_agg w 9999 75 _ _ hS hp]
  simp only [Program.fieldsOf, Try.underlying75]
  clear hS hp
  go_simp
  by_cases h : [x0, x1, x2, x3] = [y0, y1, y2, y3]
  · rw [h, eqL_self]
    simp only [List.cons.injEq, and_true] at h
    obtain ⟨rfl, rfl, rfl, rfl⟩ := h
    simp
  · rw [eqL_ne h]
    simp only [List.cons.injEq, and_true, not_and] at h
    repeat' split
    all_goals first | rfl | (exfalso; simp_all; done)
theorem list4 {zs ys : List Int} {k : Nat} {x0 x1 x2 x3 y0 y1 y2 y3 : Int} (hx : zs.getD (k * 4) 0 = x0 ∧ zs.getD (k * 4 + 1) 0 = x1 ∧ zs.getD (k * 4 + 2) 0 = x2 ∧ zs.getD (k * 4 + 3) 0 = x3) (hy : ys.getD (k * 4) 0 = y0 ∧ ys.getD (k * 4 + 1) 0 = y1 ∧ ys.getD (k * 4 + 2) 0 = y2 ∧ ys.getD (k * 4 + 3) 0 = y3) (h : eqL [x0, x1, x2, x3] [y0, y1, y2, y3] = true) : ∀ j, k * 4 ≤ j → j < k * 4 + 4 → zs.getD j 0 = ys.getD j 0 := by
  have he := eqL_true h
  simp only [List.cons.injEq, and_true] at he
  obtain ⟨e0, e1, e2, e3⟩ := he
  obtain ⟨a0, a1, a2, a3⟩ := hx
  obtain ⟨b0, b1, b2, b3⟩ := hy
  intro j h1 h2
  rcases (by omega : j = k * 4 ∨ j = k * 4 + 1 ∨ j = k * 4 + 2 ∨ j = k * 4 + 3) with r | r | r | r <;> subst r
  · rw [a0, b0, e0]
  · rw [a1, b1, e1]
  · rw [a2, b2, e2]
  · rw [a3, b3, e3]
theorem list4_ne {zs ys : List Int} {k : Nat} {x0 x1 x2 x3 y0 y1 y2 y3 : Int} (hx : zs.getD (k * 4) 0 = x0 ∧ zs.getD (k * 4 + 1) 0 = x1 ∧ zs.getD (k * 4 + 2) 0 = x2 ∧ zs.getD (k * 4 + 3) 0 = x3) (hy : ys.getD (k * 4) 0 = y0 ∧ ys.getD (k * 4 + 1) 0 = y1 ∧ ys.getD (k * 4 + 2) 0 = y2 ∧ ys.getD (k * 4 + 3) 0 = y3) (h : eqL [x0, x1, x2, x3] [y0, y1, y2, y3] = false) : zs ≠ ys := by
  rintro rfl
  obtain ⟨a0, a1, a2, a3⟩ := hx
  obtain ⟨b0, b1, b2, b3⟩ := hy
  have : [x0, x1, x2, x3] = [y0, y1, y2, y3] := by rw [← a0, ← a1, ← a2, ← a3, b0, b1, b2, b3]
  rw [this, eqL_self] at h
  exact absurd h (by decide)
theorem sameC_todo {i0 t0 j0 u0 : Int} {wl xl : List Wt} {gl yl : List Gt} (h : WT wl ≠ WT xl) : sameClientB i0 wl gl t0 j0 xl yl u0 = false := by unfold sameClientB; rw [eqL_ne h]; simp
theorem sameC_gots {i0 t0 j0 u0 : Int} {wl xl : List Wt} {gl yl : List Gt} (h : GT gl ≠ GT yl) : sameClientB i0 wl gl t0 j0 xl yl u0 = false := by unfold sameClientB; rw [eqL_ne h]; simp
attribute [local go_sem] Ext.cell Ext.frozen
end Go.Proofs.Ytckbnfgdjdppfaa

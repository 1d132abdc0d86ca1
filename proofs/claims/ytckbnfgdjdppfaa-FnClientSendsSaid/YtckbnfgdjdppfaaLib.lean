/- General lemmas of ours for the walks of this seat: worlds that extend a world (Ext), regions that draw their order whose callees make new memory, frames. No program in sight. -/
import Derived.WalkKit
import Derived.WalkSpells
import Derived.WalkLawsBesides
import Derived.Deep.QuietTactic
import Derived.BigQuiet
import Derived.Below
import Derived.Lib.Hide
import Derived.Handy
namespace Go.Proofs.Ytckbnfgdjdppfaa
set_option linter.unusedSimpArgs false
set_option linter.unusedVariables false
open Go.RowKit

theorem n_lt2 (n : Nat) : (n < n + 1 + 1) = True := by simp; omega
theorem n_lt3 (n : Nat) : (n < n + 1 + 1 + 1) = True := by simp; omega
theorem n_lt4 (n : Nat) : (n < n + 1 + 1 + 1 + 1) = True := by simp; omega
theorem n_le2 (n : Nat) : (n ≤ n + 1 + 1) = True := by simp; omega
theorem n_le3 (n : Nat) : (n ≤ n + 1 + 1 + 1) = True := by simp; omega

/-- A world that is W but for new memory. -/
structure Ext (W : World) where
  w : World
  h : Below W.heap.size W w

instance (W : World) : Inhabited (Ext W) := ⟨⟨W, Below.refl _ _⟩⟩

theorem Ext.cell {W : World} (z : Ext W) (b o : Nat) (hb : b < W.heap.size) : z.w.cell? ⟨b, o, none⟩ = W.cell? ⟨b, o, none⟩ := z.h.cell (p := ⟨b, o, none⟩) hb
theorem Ext.frozen {W : World} (z : Ext W) (b o : Nat) (hb : b < W.heap.size) : z.w.frozen? ⟨b, o, none⟩ = W.frozen? ⟨b, o, none⟩ := z.h.frozen (p := ⟨b, o, none⟩) hb

/-- A frame, cell by cell: the walk uses it as two rules. -/
theorem bcell {W w1 : World} (hb : Below W.heap.size W w1) : (∀ b o, b < W.heap.size → w1.cell? ⟨b, o, none⟩ = W.cell? ⟨b, o, none⟩) ∧ (∀ b o, b < W.heap.size → w1.frozen? ⟨b, o, none⟩ = W.frozen? ⟨b, o, none⟩) ∧
    (∀ x, x < W.heap.size → x < w1.heap.size) ∧ (∀ x, x ≤ W.heap.size → x ≤ w1.heap.size) ∧ (∀ x k, x < W.heap.size → x < w1.heap.size + k) ∧ (∀ x k, x ≤ W.heap.size → x ≤ w1.heap.size + k) :=
  ⟨fun b o h => hb.cell (p := ⟨b, o, none⟩) h, fun b o h => hb.frozen (p := ⟨b, o, none⟩) h, fun _ h => Nat.lt_of_lt_of_le h hb.size, fun _ h => Nat.le_trans h hb.size, fun _ _ h => Nat.lt_of_lt_of_le h (Nat.le_trans hb.size (Nat.le_add_right _ _)), fun _ _ h => Nat.le_trans h (Nat.le_trans hb.size (Nat.le_add_right _ _))⟩

theorem below_drewN {B : Nat} {a w : World} (h : Below B a w) (n : Nat) : Below B a (w.drewN n) := ⟨h.os, h.tape, h.output, h.size, h.block⟩

/-- One call more. -/
theorem bstep {B : Nat} {a W w' : World} (h : Below W.heap.size W w') (h1 : Below B a W) (hB : B ≤ W.heap.size) : Below B a w' := h1.trans (h.mono hB)

/-- A region that draws its order, whose operations only read and whose callees make at most new memory: one walk in the order of the text. -/
theorem wp_region_ext {P : Program} {id : Nat} {Q : Exit → Act → World → Prop} {a : Act} {w : World} {l : List Oper} (hm : P.follows .mixedOrders = true) (hB : Region.lexB .any l.toArray = true)
    (h : wpQuiet P l.toArray (fun w' => ∃ z : Ext w, w' = z.w) (fun a' => ∀ w', (∃ z : Ext w, w' = z.w) → Q .normal a' w') l a) : (Code.region id l.toArray true).wp P Q a w :=
  wp_region_quiet (C := fun w' => ∃ z : Ext w, w' = z.w) hm hB ⟨⟨{ w with drawn := w.drawn + 1 }, ⟨rfl, rfl, rfl, Nat.le_refl _, fun _ _ => rfl⟩⟩, rfl⟩ (by simpa using h)

/-- A callee's contract inside such a region. -/
theorem quiet_ext {P : Program} {f : FuncId} {args : Array Value} {W : World} {z : Ext W} {v : Value}
    (h : Calls P f args z.w fun e w' => e = .returned v ∧ Below z.w.heap.size z.w w') : Calls P f args z.w fun e w'' => e = .returned v ∧ ∃ z' : Ext W, w'' = z'.w :=
  h.mono fun _ w'' ⟨he, hm⟩ => ⟨he, ⟨w'', bstep hm z.h z.h.size⟩, rfl⟩
theorem quiet_ext_same {P : Program} {f : FuncId} {args : Array Value} {W : World} {z : Ext W} {v : Value}
    (h : Calls P f args z.w fun e w' => e = .returned v ∧ z.w = w') : Calls P f args z.w fun e w'' => e = .returned v ∧ ∃ z' : Ext W, w'' = z'.w :=
  h.mono fun _ _ ⟨he, hm⟩ => ⟨he, z, hm.symm⟩

theorem ret_bool {a b : Bool} (h : a = b) : Ending.returned (.bool a) = .returned (.bool b) := by rw [h]
theorem ret_int {k : IntKind} {a b : Int} (h : a = b) : Ending.returned (.int k a) = .returned (.int k b) := by rw [h]
theorem all_range_false {n k : Nat} {f : Nat → Bool} (hk : k < n) (hf : f k = false) : (List.range n).all f = false := by
  rw [List.all_eq_false]
  exact ⟨k, List.mem_range.2 hk, by simp [hf]⟩
theorem all_range_true {n : Nat} {f : Nat → Bool} (h : ∀ j, j < n → f j = true) : (List.range n).all f = true := by
  rw [List.all_eq_true]
  exact fun j hj => h j (List.mem_range.1 hj)
theorem upto_succ {k : Nat} {f : Nat → Bool} (h : ∀ j, j < k → f j = true) (hk : f k = true) : ∀ j, j < k + 1 → f j = true := fun j hj => by
  rcases Nat.lt_or_ge j k with h1 | h1
  · exact h j h1
  · obtain rfl : j = k := by omega
    exact hk

end Go.Proofs.Ytckbnfgdjdppfaa

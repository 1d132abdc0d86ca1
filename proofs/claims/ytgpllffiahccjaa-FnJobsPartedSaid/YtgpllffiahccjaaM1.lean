/- A map from int64 to bool of the call's own. No program in sight. -/
import Derived.Test.YtgpllffiahccjaaLib
import Derived.Maps.OwnSet
import Derived.Maps.Views
namespace Go.Proofs.Ytgpllffiahccjaa
set_option linter.unusedSimpArgs false
set_option linter.unusedVariables false
attribute [local go_sem] n_lt2 n_lt3 n_lt4 n_le2 n_le3
open Go.RowKit Go.Maps Go.WideShapes

theorem ownsMap_below {P : Program} {k : TypeId} {R : Value → Option (DataW Unit × List MemPlace)} {w w' : World} {b n : Nat} {D : DataW Unit} (h : w.ownsMap P k R b n D) (hb : Below w.heap.size w w') : w'.ownsMap P k R b n D := by
  have hlt := h.lt
  obtain ⟨es, clock, hbk, F, hs, hD⟩ := h
  exact ⟨es, clock, (hb.block b hlt).trans hbk, F, hs, hD⟩
theorem plainElem_bool_inv {P : Program} {e : TypeId} (he : P.underlying e = some .bool) {v : Value} {z : DataW Unit × List MemPlace} (h : plainElem P e v = some z) : ∃ u, v = .bool u ∧ z = (.lit (.bool u), []) := by
  unfold plainElem at h
  rw [he] at h
  cases v <;> simp at h
  exact ⟨_, rfl, h.symm⟩

/-- Block b is a map from int64 to bool; what it holds at x is 'u x'. -/
def Marked (P : Program) (K E : TypeId) (w : World) (b n : Nat) (u : Int → Bool) : Prop :=
  ∃ D : DataW Unit, w.ownsMap P K (plainElem P E) b n D ∧ ∀ x, D.atKey (.int .i64 x) (.lit (.bool false)) = .lit (.bool (u x))
theorem Marked.made (w : World) (P : Program) (K E : TypeId) : Marked P K E (w.alloc (.map #[] 0)) w.heap.size 0 (fun _ => false) :=
  ⟨_, World.ownsMap_made w P K _, fun _ => rfl⟩
theorem Marked.lt {P : Program} {K E : TypeId} {w : World} {b n : Nat} {u : Int → Bool} (h : Marked P K E w b n u) : b < w.heap.size := by
  obtain ⟨D, hD, _⟩ := h
  exact hD.lt
theorem Marked.below {P : Program} {K E : TypeId} {w w' : World} {b n : Nat} {u : Int → Bool} (h : Marked P K E w b n u) (hb : Below w.heap.size w w') : Marked P K E w' b n u := by
  obtain ⟨D, hD, ha⟩ := h
  exact ⟨D, ownsMap_below hD hb, ha⟩
theorem wf_small {x : Int} (hx : 0 ≤ x ∧ x ≤ 2000) : (Lit.int .i64 x).wf = true := by
  simp only [Lit.wf, Bool.and_eq_true, decide_eq_true_eq]
  exact ⟨Int.le_trans (show IntKind.min .i64 ≤ 0 by decide) hx.1, Int.le_trans hx.2 (show (2000 : Int) ≤ IntKind.max .i64 by decide)⟩
theorem Marked.look {P : Program} {K E t : TypeId} {w : World} {b n : Nat} {u : Int → Bool} (h : Marked P K E w b n u) (hK : P.underlying K = some (.int .i64)) (hE : P.underlying E = some .bool) (ht : P.underlying t = some (.map K E))
    (hz : (zeroValue E).run P w = .ok (.bool false) w) {x : Int} (hx : 0 ≤ x ∧ x ≤ 2000) : (Instr.lookup t (.map (some b)) (.int .i64 x) false).run P w = .ok (.bool (u x)) w := by
  obtain ⟨D, hD, ha⟩ := h
  obtain ⟨v, ps, hrun, hv⟩ := hD.lookup (int_keyed hK) ht hz (plainElem_bool hE false) (keyOf_int_mk hK (wf_small hx))
  obtain ⟨c, rfl, hc⟩ := plainElem_bool_inv hE hv
  rw [ha x] at hc
  simp only [Prod.mk.injEq, DataW.lit.injEq, Lit.bool.injEq] at hc
  rw [hrun, hc.1]
theorem wpList_mark {P : Program} {w : World} {ops : Array Oper} {rest : List Oper} {o : Oper} {a : Act} {Q : Exit → Act → World → Prop} (hg : o.guard = none) (m x v : Operand) (t : TypeId) (hop : o.op = Op.mapUpdate t m x v)
    (K E : TypeId) (hK : P.underlying K = some (.int .i64)) (hE : P.underlying E = some .bool) (ht : P.underlying t = some (.map K E)) (b n : Nat) (u : Int → Bool)
    (hm : a.eval m = .map (some b)) (hown : Marked P K E w b n u) (hn : n < maxLen) (y : Int) (hy : 0 ≤ y ∧ y ≤ 2000) (hx : a.eval x = .int .i64 y) (hv : a.eval v = .bool true)
    (h : ∀ w', Marked P K E w' b (n + 1) (fun z => u z || decide (y = z)) → w.grownBy w' (some b) → wpList P ops Q rest (a.put o.dst undef) w') :
    wpList P ops Q (o :: rest) a w := by
  obtain ⟨D, hD, ha⟩ := hown
  refine wpList_mapUpdate_own _ hg m x v t hop K E (int_keyed hK) ht (plainElem P E) b n D hm hD hn (.int .i64 y) (.bool true) (.int .i64 y) hx hv (keyOf_int_mk hK (wf_small hy)) (.lit (.bool true)) [] (plainElem_bool hE true) ?_
  intro w' hD' hg'
  refine h w' ⟨_, hD', fun z => ?_⟩ hg'
  by_cases hz : y = z
  · subst hz
    rw [atKey_put_same hD.isMap (by trivial)]
    simp
  · rw [atKey_put_other (by intro h'; injection h' with _ h2; exact hz h2.symm), ha z]
    simp [hz]
theorem wp_named {P : Program} {c : Code} {Q : Exit → Act → World → Prop} {a : Act} {w : World} (h : ∀ w', w' = w → Code.wp P c Q a w') : Code.wp P c Q a w := h w rfl
end Go.Proofs.Ytgpllffiahccjaa

/- Clients: copies. -/
import Derived.Test.YtckbnfgdjdppfaaC5
import Derived.Test.YtckbnfgdjdppfaaCp
import Derived.Deep.RegionHeldLaw
import Derived.Deep.RegionLawGrows
namespace Go.Proofs.Ytckbnfgdjdppfaa
set_option linter.unusedSimpArgs false
set_option linter.unusedVariables false
attribute [local go_sem] n_lt2 n_lt3 n_lt4 n_le2 n_le3
open Go.RowKit
attribute [local go_sem] Ext.cell Ext.frozen
theorem info_Got6 : (Try.prog.info? 75).map (fun i => (i.zero, i.size, i.bytes)) = some (some (.agg #[.int .i64 0, .int .i64 0, .int .i64 0, .int .i64 0]), 4, 32) := by kernel_rfl
theorem info_Want6 : (Try.prog.info? 45).map (fun i => (i.zero, i.size, i.bytes)) = some (some (.agg #[.int .i64 0, .int .i64 0, .int .i64 0, .int .i64 0, .int .i64 0, .int .i64 0, .int .i64 0]), 7, 56) := by kernel_rfl
theorem news_of {w : World} {s n : Nat} {A : Option Addr} {zs : List Int} {ad : Addr} (h : Sl w s A n zs) (hs : 0 < s) (hA : A = some ad) : ∀ j u, (ints zs)[j]? = some u → w.cell? (ad.add j) = some u := by
  intro j u hu
  have hj : j < zs.length := by
    rcases Nat.lt_or_ge j zs.length with h1 | h1
    · exact h1
    · rw [List.getElem?_eq_none (by rw [ints_length]; exact h1)] at hu
      exact absurd hu (by simp)
  have hl := h.len
  have hn : 0 < n := by
    rcases Nat.eq_zero_or_pos n with h0 | h0
    · rw [h0, Nat.zero_mul] at hl; omega
    · exact h0
  obtain ⟨b, off, hb, _, hc⟩ := h.at_ hn
  rw [hA] at hb
  obtain rfl := Option.some.inj hb
  have hadd : (⟨b, off, none⟩ : Addr).add j = ⟨b, off + j, none⟩ := by unfold Addr.add; split <;> simp_all
  rw [hadd, hc j (by rw [← hl]; exact hj), ← hu]
  exact (ints_get zs j hj).symm
/-- What lies in a cell. -/
def cur (w : World) (a : Addr) : Value := (w.cell? a).getD undef
theorem cur_some {w : World} {a : Addr} {v : Value} (h : w.cell? a = some v) : w.cell? a = some (cur w a) := by unfold cur; rw [h]; rfl
/-- What the region of the copy keeps: the client's box g0 (its four cells) and that the result's block g1 can be written. -/
abbrev CopyS (w : World) (g0 g1 : Nat) (x0 x1 x2 x3 : Value) (w' : World) : Prop :=
  Below w.heap.size w w' ∧ w'.cell? ⟨g0, 0, none⟩ = some (x0) ∧ w'.cell? ⟨g0, 1, none⟩ = some (x1) ∧ w'.cell? ⟨g0, 2, none⟩ = some (x2) ∧ w'.cell? ⟨g0, 3, none⟩ = some (x3) ∧ g0 < w'.heap.size ∧ g1 < w'.heap.size ∧ w'.frozen? ⟨g1, 0, none⟩ = false ∧ w'.frozen? ⟨g1, 1, none⟩ = false ∧ w'.frozen? ⟨g1, 2, none⟩ = false ∧ w'.frozen? ⟨g1, 3, none⟩ = false ∧ w'.cell? ⟨g1, 0, none⟩ = some (cur w' ⟨g1, 0, none⟩) ∧ w'.cell? ⟨g1, 1, none⟩ = some (cur w' ⟨g1, 1, none⟩) ∧ w'.cell? ⟨g1, 2, none⟩ = some (cur w' ⟨g1, 2, none⟩) ∧ w'.cell? ⟨g1, 3, none⟩ = some (cur w' ⟨g1, 3, none⟩)
theorem CopyS.mk {w w' : World} {g0 g1 : Nat} {e f : TypeId} {x0 x1 x2 x3 y0 y1 y2 y3 : Value} (hb : Below w.heap.size w w') (K : Blk w' g0 e #[x0, x1, x2, x3]) (R : Blk w' g1 f #[y0, y1, y2, y3]) : CopyS w g0 g1 x0 x1 x2 x3 w' :=
  ⟨hb, K.cell 0, K.cell 1, K.cell 2, K.cell 3, K.lt, R.lt, R.frozen 0, R.frozen 1, R.frozen 2, R.frozen 3, cur_some (R.cell 0), cur_some (R.cell 1), cur_some (R.cell 2), cur_some (R.cell 3)⟩
theorem CopyS.b {w : World} {g0 g1 : Nat} {x0 x1 x2 x3 : Value} {w' : World} (h : CopyS w g0 g1 x0 x1 x2 x3 w') : Below w.heap.size w w' := h.1
theorem CopyS.below {w w' w5 : World} {g0 g1 : Nat} {x0 x1 x2 x3 : Value} (h : CopyS w g0 g1 x0 x1 x2 x3 w') (B : Below w'.heap.size w' w5) : CopyS w g0 g1 x0 x1 x2 x3 w5 := by
  obtain ⟨hb, c0, c1, c2, c3, l0, l1, f0, f1, f2, f3, d0, d1, d2, d3⟩ := h
  obtain ⟨hcb, hfb, _⟩ := bcell B
  exact ⟨bthen hb B, (B.cell l0).trans c0, (B.cell l0).trans c1, (B.cell l0).trans c2, (B.cell l0).trans c3, Nat.lt_of_lt_of_le l0 B.size, Nat.lt_of_lt_of_le l1 B.size, (hfb g1 0 l1).trans f0, (hfb g1 1 l1).trans f1, (hfb g1 2 l1).trans f2, (hfb g1 3 l1).trans f3, cur_some ((B.cell (p := ⟨g1, 0, none⟩) l1).trans d0), cur_some ((B.cell (p := ⟨g1, 1, none⟩) l1).trans d1), cur_some ((B.cell (p := ⟨g1, 2, none⟩) l1).trans d2), cur_some ((B.cell (p := ⟨g1, 3, none⟩) l1).trans d3)⟩
theorem set_cur {w : World} {g j k : Nat} {u : Value} (d : w.cell? ⟨g, j, none⟩ = some u) (v : Value) : (w.setCell ⟨g, k, none⟩ v).cell? ⟨g, j, none⟩ = some (cur (w.setCell ⟨g, k, none⟩ v) ⟨g, j, none⟩) := by
  by_cases hk : k = j
  · subst hk
    exact cur_some (World.cell?_setCell_same w _ v d)
  · exact cur_some ((World.cell?_setCell_other w ⟨g, k, none⟩ ⟨g, j, none⟩ v (by intro h; injection h with _ h2 _; exact hk h2)).trans d)
theorem CopyS.set {w w' : World} {g0 g1 : Nat} {x0 x1 x2 x3 : Value} (h : CopyS w g0 g1 x0 x1 x2 x3 w') (hg : w.heap.size ≤ g1) (hne : g1 ≠ g0) (k : Nat) (v : Value) : CopyS w g0 g1 x0 x1 x2 x3 (w'.setCell ⟨g1, k, none⟩ v) := by
  obtain ⟨hb, c0, c1, c2, c3, l0, l1, f0, f1, f2, f3, d0, d1, d2, d3⟩ := h
  exact ⟨hb.setCell hg v, (World.cell?_setCell_far _ _ _ _ hne).trans c0, (World.cell?_setCell_far _ _ _ _ hne).trans c1, (World.cell?_setCell_far _ _ _ _ hne).trans c2, (World.cell?_setCell_far _ _ _ _ hne).trans c3, by simpa using l0, by simpa using l1, by simpa using f0, by simpa using f1, by simpa using f2, by simpa using f3, set_cur d0 v, set_cur d1 v, set_cur d2 v, set_cur d3 v⟩
theorem CopyS.set4 {w w' : World} {x0 x1 x2 x3 : Value} (h : CopyS w w.heap.size (w.heap.size + 1) x0 x1 x2 x3 w') (y0 y1 y2 y3 : Value) : CopyS w w.heap.size (w.heap.size + 1) x0 x1 x2 x3 ((((w'.setCell ⟨w.heap.size + 1, 0, none⟩ y0).setCell ⟨w.heap.size + 1, 1, none⟩ y1).setCell ⟨w.heap.size + 1, 2, none⟩ y2).setCell ⟨w.heap.size + 1, 3, none⟩ y3) :=
  (((h.set (Nat.le_succ _) (Nat.succ_ne_self _) 0 y0).set (Nat.le_succ _) (Nat.succ_ne_self _) 1 y1).set (Nat.le_succ _) (Nat.succ_ne_self _) 2 y2).set (Nat.le_succ _) (Nat.succ_ne_self _) 3 y3
theorem owns_some {w : World} {lo : Nat} {e : TypeId} {s k : Nat} {v : Value} {zs : List Value} (h : w.ownsRow lo e s v k zs) (hk : 0 < k) : ∃ g c, v = .slice (some ⟨g, 0, none⟩) k c := by
  rcases h.2 with ⟨_, h0⟩ | ⟨g, c, cur, hv, _⟩
  · omega
  · exact ⟨g, c, hv⟩
theorem grown_below {w w' : World} (h : w.grownBy w' none) : Below w.heap.size w w' := (Below.refl w.heap.size w).grown h (Nat.le_refl _) (fun q hq => by simp at hq)
theorem CopyS.below2 {w w' w5 : World} {g0 g1 : Nat} {x0 x1 x2 x3 : Value} (B : Below w'.heap.size w' w5) (h : CopyS w g0 g1 x0 x1 x2 x3 w') : CopyS w g0 g1 x0 x1 x2 x3 w5 := h.below B
theorem Blk.below2 {w w' : World} {g : Nat} {e : TypeId} {cs : Array Value} (hb : Below w.heap.size w w') (h : Blk w g e cs) : Blk w' g e cs := h.below hb
end Go.Proofs.Ytckbnfgdjdppfaa

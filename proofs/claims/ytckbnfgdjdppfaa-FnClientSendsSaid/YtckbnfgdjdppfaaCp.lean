/- append of a whole slice onto a literal of no elements, as one step of a region that draws. -/
import Derived.Test.YtckbnfgdjdppfaaMem
import Derived.Deep.RegionHeldLaw
import Derived.Deep.RegionLawGrows
namespace Go.Proofs.Ytckbnfgdjdppfaa
set_option linter.unusedSimpArgs false
set_option linter.unusedVariables false
attribute [local go_sem] n_lt2 n_lt3 n_lt4 n_le2 n_le3
open Go.RowKit
theorem slices_of {w : World} {s n : Nat} {A : Option Addr} {zs : List Int} {ad : Addr} (h : Sl w s A n zs) (hA : A = some ad) : ∀ j u, (ints zs)[j]? = some u → w.cell? (ad.add j) = some u := by
  intro j u hu
  have hj : j < zs.length := by
    rcases Nat.lt_or_ge j zs.length with h1 | h1
    · exact h1
    · rw [List.getElem?_eq_none (by rw [ints_length]; exact h1)] at hu
      exact absurd hu (by simp)
  have hl := h.len
  have hn : 0 < n := by
    rcases Nat.eq_zero_or_pos n with h0 | h0
    · rw [h0, Nat.zero_mul] at hl; omega
    · exact h0
  obtain ⟨b, off, hb, _, hc⟩ := h.at_ hn
  rw [hA] at hb
  obtain rfl := Option.some.inj hb
  have hadd : (⟨b, off, none⟩ : Addr).add j = ⟨b, off + j, none⟩ := by unfold Addr.add; split <;> simp_all
  rw [hadd, hc j (by rw [← hl]; exact hj), ← hu]
  exact (ints_get zs j hj).symm
theorem grows_below {w w' : World} (h : w.grownBy w' none) : Below w.heap.size w w' := (Below.refl w.heap.size w).grown h (Nat.le_refl _) (fun q hq => by simp at hq)
theorem run_append_nothing {P : Program} (w : World) (t ty e : TypeId) (i : TypeInfo) (ht : P.underlying t = some (.slice e)) (hi : P.info? e = some i) (b : Addr) (A : Option Addr) (c : Nat) :
    (Builtin.append_ #[t, t] ty #[.slice (some b) 0 0, .slice A 0 c]).run P w = .ok (.slice (some b) 0 0) w := by
  cases A <;> simp [Builtin.append_, run_underlying ht, sizeOf, typeInfo, hi, Builtin.lenOf, Builtin.firstCells, loadCells, loadCellsFrom, storeCells]
/-- append of the elements of a slice (of none too) onto the fresh block g of no elements. -/
theorem wp_append_copy {P : Program} {o : Oper} {a : Act} {w : World} {K : Act → World → Prop} {Q : Exit → Act → World → Prop}
    (hg : o.guard = none) (s x : Operand) (t : TypeId) (hop : o.op = Op.call { callee := Callee.builtin Builtin.append, args := #[s, x], argTypes := #[t, t] })
    (e : TypeId) (i : TypeInfo) (z : Value) (size bytes : Nat) (h1 : P.underlying t = some (.slice e)) (h2 : P.info? e = some i) (h3 : i.zero = some z) (h4 : i.size = size) (h5 : i.bytes = bytes) (h6 : z.cells.size = size) (h7 : 0 < size)
    (g : Nat) (hs : a.eval s = .slice (some ⟨g, 0, none⟩) 0 0) (lo : Nat) (A : Option Addr) (m c : Nat) (zs : List Int) (hx : a.eval x = .slice A m c)
    (b0 : m ≤ maxLen) (b1 : m * bytes ≤ 140737488355328) (hblk : Blk w g e #[]) (hlo : lo ≤ g) (hS : Sl w size A m zs)
    (hK : ∀ g' c' w', Row w' lo e size (some ⟨g', 0, none⟩) m c' zs → Below w.heap.size w w' → g' < w'.heap.size → (g' = g ∨ w.heap.size ≤ g') → K (a.put o.dst (.slice (some ⟨g', 0, none⟩) m c')) w') :
    Oper.wp P o a w K Q := by
  rcases Nat.eq_zero_or_pos m with hm | hm
  · subst hm
    have hz : zs = [] := List.eq_nil_of_length_eq_zero (by simpa using hS.len)
    subst hz
    have hrun := run_append_nothing (P := P) w t o.type e i h1 h2 ⟨g, 0, none⟩ A c
    unfold Oper.wp
    simp [execOp, hop, resolve, invoke, builtin, hs, hx, hrun, Result.andThen]
    exact hK g 0 w ⟨by simp [ints], .inr ⟨g, 0, #[], rfl, hlo, hblk, Nat.le_refl _, Nat.zero_le _, by simp, by simp [ints]⟩⟩ (Below.refl _ _) hblk.lt (.inl rfl)
  · obtain ⟨b, off, rfl, hb, hc⟩ := hS.at_ hm
    have hl := hS.len
    have hw : Region.wanted o (yielded #[] a.tmps) = true := by simp [Region.wanted, hg]
    have hst := step_append_grows (P := P) (ops := #[]) (o := o) (a := a) (w := w) (K := K) (Q := Q) (E := True) hg s x t hop e i z size bytes h1 h2 h3 h4 h5 h6 h7 (some ⟨g, 0, none⟩) 0 0 [] hs (by simp) (by simp) (fun _ _ j u hu => by simp at hu) ⟨b, off, none⟩ m c (ints zs) hx (by rw [ints_length]; exact hl)
      (slices_of hS rfl) (ints_oneCell' zs) (by omega) (by omega) (by rw [Nat.zero_add]; exact b1) (fun v' w' hown hgr => by
        have hB := grows_below hgr
        have hlw := hblk.lt
        rcases hown.2 with ⟨_, h0⟩ | ⟨g', c', cur, rfl, hge, hg', hrest⟩
        · omega
        · rw [Nat.zero_add] at hown ⊢
          have hR : Row w' w.heap.size e size (some ⟨g', 0, none⟩) m c' zs := by
            rw [List.nil_append] at hown
            exact hown
          exact hK g' c' w' (hR.mono (by omega)) hB (hR.lt _ rfl) (.inr hge))
    rw [if_pos hw] at hst
    exact hst
theorem step_append_copy {P : Program} {ops : Array Oper} {o : Oper} {a : Act} {w : World} {K : Act → World → Prop} {Q : Exit → Act → World → Prop} {E : Prop}
    (hg : o.guard = none) (s x : Operand) (t : TypeId) (hop : o.op = Op.call { callee := Callee.builtin Builtin.append, args := #[s, x], argTypes := #[t, t] })
    (e : TypeId) (i : TypeInfo) (z : Value) (size bytes : Nat) (h1 : P.underlying t = some (.slice e)) (h2 : P.info? e = some i) (h3 : i.zero = some z) (h4 : i.size = size) (h5 : i.bytes = bytes) (h6 : z.cells.size = size) (h7 : 0 < size)
    (g : Nat) (hs : a.eval s = .slice (some ⟨g, 0, none⟩) 0 0) (lo : Nat) (A : Option Addr) (m c : Nat) (zs : List Int) (hx : a.eval x = .slice A m c)
    (b1 : m ≤ 1000) (b2 : bytes ≤ 1000) (hblk : Blk w g e #[]) (hlo : lo ≤ g) (hS : Sl w size A m zs)
    (hK : ∀ g' c' w', Row w' lo e size (some ⟨g', 0, none⟩) m c' zs → Below w.heap.size w w' → g' < w'.heap.size → (g' = g ∨ w.heap.size ≤ g') → K (a.put o.dst (.slice (some ⟨g', 0, none⟩) m c')) w') :
    if Region.wanted o (yielded ops a.tmps) = true then Oper.wp P o a w K Q else E := by
  rw [if_pos (by simp [Region.wanted, hg])]
  exact wp_append_copy hg s x t hop e i z size bytes h1 h2 h3 h4 h5 h6 h7 g hs lo A m c zs hx (by unfold maxLen; omega) (by have := Nat.mul_le_mul b1 b2; omega) hblk hlo hS hK
theorem wpList_append_copy {P : Program} {ops : Array Oper} {rest : List Oper} {o : Oper} {a : Act} {w : World} {Q : Exit → Act → World → Prop}
    (hg : o.guard = none) (s x : Operand) (t : TypeId) (hop : o.op = Op.call { callee := Callee.builtin Builtin.append, args := #[s, x], argTypes := #[t, t] })
    (e : TypeId) (z : Value) (size bytes : Nat) (h1 : P.underlying t = some (.slice e)) (hinfo : (P.info? e).map (fun i => (i.zero, i.size, i.bytes)) = some (some z, size, bytes)) (h6 : z.cells.size = size) (h7 : 0 < size)
    (g : Nat) (hs : a.eval s = .slice (some ⟨g, 0, none⟩) 0 0) (lo : Nat) (A : Option Addr) (m c : Nat) (zs : List Int) (hx : a.eval x = .slice A m c)
    (b0 : m ≤ maxLen) (b1 : m * bytes ≤ 140737488355328) (hblk : Blk w g e #[]) (hlo : lo ≤ g) (hS : Sl w size A m zs)
    (hK : ∀ g' c' w', Row w' lo e size (some ⟨g', 0, none⟩) m c' zs → Below w.heap.size w w' → g' < w'.heap.size → (g' = g ∨ w.heap.size ≤ g') → wpList P ops Q rest (a.put o.dst (.slice (some ⟨g', 0, none⟩) m c')) w') :
    wpList P ops Q (o :: rest) a w := by
  obtain ⟨i, hi, hiz, his, hib⟩ : ∃ i, P.info? e = some i ∧ i.zero = some z ∧ i.size = size ∧ i.bytes = bytes := by
    cases hq : P.info? e with
    | none => rw [hq] at hinfo; simp at hinfo
    | some i =>
      rw [hq] at hinfo
      simp only [Option.map_some, Option.some.injEq, Prod.mk.injEq] at hinfo
      exact ⟨i, rfl, hinfo.1, hinfo.2.1, hinfo.2.2⟩
  exact wpList_plain hg fun _ hK2 => wp_append_copy hg s x t hop e i z size bytes h1 hi hiz his hib h6 h7 g hs lo A m c zs hx b0 b1 hblk hlo hS (fun g' c' w' r1 r2 r3 r4 => hK2 _ _ (hK g' c' w' r1 r2 r3 r4))
end Go.Proofs.Ytckbnfgdjdppfaa

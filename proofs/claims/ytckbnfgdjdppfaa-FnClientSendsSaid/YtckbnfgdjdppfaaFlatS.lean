/- Slices of structs whose leaves are all int64, opened to one list of integers; lists of structs laid flat. No program in sight. -/
import Derived.Test.YtckbnfgdjdppfaaFlat
import Derived.Test.YtckbnfgdjdppfaaMem
namespace Go.Proofs.Ytckbnfgdjdppfaa
set_option linter.unusedSimpArgs false
set_option linter.unusedVariables false
attribute [local go_sem] n_lt2 n_lt3 n_lt4 n_le2 n_le3
open Go.ChangeShapes Go.WideShapes Go.ChangeAt Go.RowKit Go.Deep

section
variable {α : Type} (c : α → List Int) (s : Nat)
theorem flat_len (l : List α) (h : ∀ a ∈ l, (c a).length = s) : (l.flatMap c).length = l.length * s := by
  induction l with
  | nil => simp
  | cons a l ih =>
    rw [List.flatMap_cons, List.length_append, h a (by simp), ih (fun b hb => h b (by simp [hb])), List.length_cons, Nat.add_mul]
    omega
theorem flat_get : ∀ (l : List α) (_h : ∀ a ∈ l, (c a).length = s) (i j : Nat) (hi : i < l.length) (_hj : j < s), (l.flatMap c)[i * s + j]? = (c l[i])[j]?
  | [], _, i, _, hi, _ => by simp at hi
  | a :: l, h, 0, j, _, hj => by
    have ha : (c a).length = s := h a (by simp)
    rw [List.flatMap_cons, Nat.zero_mul, Nat.zero_add, List.getElem?_append_left (by omega)]
    rfl
  | a :: l, h, i + 1, j, hi, hj => by
    have ha : (c a).length = s := h a (by simp)
    rw [List.flatMap_cons, List.getElem?_append_right (by rw [ha, Nat.add_mul]; omega), ha]
    have e : (i + 1) * s + j - s = i * s + j := by rw [Nat.add_mul]; omega
    rw [e]
    exact flat_get l (fun b hb => h b (by simp [hb])) i j (by simpa using hi) hj
theorem flat_getD (l : List α) (h : ∀ a ∈ l, (c a).length = s) (i j : Nat) (hi : i < l.length) (hj : j < s) : (l.flatMap c).getD (i * s + j) 0 = (c l[i]).getD j 0 := by
  rw [List.getD_eq_getElem?_getD, List.getD_eq_getElem?_getD, flat_get c s l h i j hi hj]
end

theorem choose_zs {n : Nat} {Q : Nat → List Int → Prop} (h : ∀ i, i < n → ∃ zs, Q i zs) : ∃ Z : Nat → List Int, ∀ i, i < n → Q i (Z i) :=
  ⟨fun i => if hi : i < n then Classical.choose (h i hi) else [], fun i hi => by
    simp only [hi, dif_pos]
    exact Classical.choose_spec (h i hi)⟩

section
variable {H : Type} {enc : TypeId × Value → H} {P : Program} {w : World} {base : Nat} {spare : Nat → Bool} {held : Bool}

theorem trod_slice_flat {t e : TypeId} {s : Nat} {fuel : Nat} {cs : List Value} {x : DataW H × List MemPlace} (D : Nat) (ht : P.underlying t = some (.slice e)) (hB : flatB P D e = true) (hs : P.cellsOf e = s) (hs0 : 0 < s)
    (h : DataW.trod enc P w base spare held fuel t cs = some x) : ∃ A n cap zs, cs = [.slice A n cap] ∧ Sl w s A n zs ∧ n ≤ cap ∧ cap ≤ maxLen ∧ ∀ z ∈ zs, I64 z := by
  rcases open_slice ht h with ⟨rfl, _⟩ | ⟨a, len, cap, m, k, Dt, Pl, rfl, _, hl, hm, hmm, _, hi⟩
  · exact ⟨none, 0, 0, [], rfl, Sl.nil _ _ _, Nat.le_refl _, by simp, by simp⟩
  · have hlm : len ≤ m := by rw [hmm]; split <;> omega
    have hel : ∀ i, i < len → ∃ zs : List Int, zs.length = s ∧ (∀ z ∈ zs, I64 z) ∧ ∀ j, j < s → w.cell? (a.add (i * s + j)) = some (.int .i64 (zs.getD j 0)) := by
      intro i hil
      obtain ⟨cs', hc, ht'⟩ := hi i (by omega)
      rw [hs] at hc
      obtain ⟨zs, rfl, hn, h64⟩ := flat_trod D e _ _ _ hB ht'
      rw [hs] at hn
      obtain ⟨_, _, hat⟩ := World.cells?_some hc
      refine ⟨zs, hn, h64, fun j hj => ?_⟩
      have h1 := hat j hj
      rw [add_add] at h1
      rw [h1]
      exact ints_get zs j (by omega)
    obtain ⟨Z, hZ⟩ := choose_zs hel
    have hzl : ∀ i ∈ List.range len, (Z i).length = s := fun i hir => (hZ i (List.mem_range.1 hir)).1
    refine ⟨some a, len, cap, (List.range len).flatMap Z, rfl, ⟨?_, fun hn => ?_⟩, hl, hm, ?_⟩
    · rw [flat_len Z s _ hzl, List.length_range]
    · have hcell : ∀ j, j < len * s → w.cell? (a.add j) = some (.int .i64 (((List.range len).flatMap Z).getD j 0)) := by
        intro j hj
        have hi' : j / s < len := Nat.div_lt_of_lt_mul (by rwa [Nat.mul_comm])
        have hj' : j % s < s := Nat.mod_lt _ hs0
        have e : j / s * s + j % s = j := Nat.div_add_mod' j s
        have h1 := (hZ _ hi').2.2 _ hj'
        have h2 := flat_getD Z s (List.range len) hzl (j / s) (j % s) (by simpa using hi') hj'
        rw [e] at h1 h2
        rw [h1, h2]
        simp
      obtain ⟨b, off, spot⟩ := a
      have h0 := hcell 0 (Nat.mul_pos hn hs0)
      have hspot : spot = none := by simpa [Addr.add] using World.cell?_spot h0
      subst hspot
      refine ⟨b, off, rfl, ?_, fun j hj => by rw [← Go.WideShapes.add_plain]; exact hcell j hj⟩
      rw [Go.WideShapes.add_plain] at h0
      exact World.block_lt_of_cell? w ⟨b, off + 0, none⟩ h0
    · intro z hz
      obtain ⟨i, hir, hzi⟩ := List.mem_flatMap.1 hz
      exact (hZ i (List.mem_range.1 hir)).2.1 z hzi

/-- An argument that is a slice of such structs (or of int64). -/
theorem open_slice_flat {r : Reach} {b0 : Nat} {t e : TypeId} {s : Nat} {v : Value} {d : DataW H} {p : List MemPlace} (D : Nat) (ht : P.underlying t = some (.slice e)) (hB : flatB P D e = true) (hs : P.cellsOf e = s) (hs0 : 0 < s)
    (hv : Value.okWide P w r b0 t v) (h : DataW.Trod enc P w base spare held t v d p) : ∃ A n cap zs, v = .slice A n cap ∧ Sl w s A n zs ∧ n ≤ cap ∧ cap ≤ maxLen ∧ ∀ z ∈ zs, I64 z := by
  obtain ⟨a, len, cap, rfl⟩ := okWide_slice ht hv
  obtain ⟨fuel, hf⟩ := h
  obtain ⟨A, n, c, zs, hc, rest⟩ := trod_slice_flat D ht hB hs hs0 hf
  have e : Value.slice a len cap = .slice A n c := by simpa [Value.cells] using hc
  exact ⟨A, n, c, zs, e, rest⟩
end
end Go.Proofs.Ytckbnfgdjdppfaa

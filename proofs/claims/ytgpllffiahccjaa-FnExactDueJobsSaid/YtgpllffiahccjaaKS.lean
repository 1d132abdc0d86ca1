/- A row of structs behind slices.SortFunc: the shelf's words turned into rows. No program in sight. -/
import Derived.Test.YtgpllffiahccjaaMem
import Derived.Test.YtgpllffiahccjaaFlatS
import Derived.Test.YtgpllffiahccjaaJ1
import Derived.Shelf.SlSortCmp.SmallK
namespace Go.Proofs.Ytgpllffiahccjaa
set_option linter.unusedSimpArgs false
set_option linter.unusedVariables false
attribute [local go_sem] n_lt2 n_lt3 n_lt4 n_le2 n_le3
open Go.RowKit Go.Sort Go.Shelf
section
variable {α : Type} [Inhabited α] (fl : α → List Int) (k : Nat)
/-- A struct's cells. -/
def encI (x : α) : List Value := ints (fl x)
theorem ints_get! (zs : List Int) (t : Nat) (h : t < zs.length) : (ints zs)[t]! = .int .i64 (zs.getD t 0) := by
  have := ints_get zs t h
  rw [List.getElem!_eq_getElem?_getD, this]
  rfl
theorem flat_cell (hk : ∀ x, (fl x).length = k) (hk0 : 0 < k) (l : List α) (t : Nat) (h : t < l.length * k) : (flatK (encI fl) k l.toArray)[t]! = .int .i64 ((l.flatMap fl).getD t 0) := by
  rw [get_flatK _ _ _ _ (by simpa using h)]
  have hq : t / k < l.length := Nat.div_lt_of_lt_mul (by rw [Nat.mul_comm]; exact h)
  have hr : t % k < k := Nat.mod_lt _ hk0
  unfold encI
  rw [ints_get! _ _ (by rw [hk]; exact hr)]
  have e1 := flat_getD fl k l (fun a _ => hk a) (t / k) (t % k) hq hr
  rw [show t / k * k + t % k = t by rw [Nat.mul_comm]; exact Nat.div_add_mod t k] at e1
  rw [e1]
  congr 2
  simp [hq]
theorem holdsK_of (hk : ∀ x, (fl x).length = k) (hk0 : 0 < k) {w : World} {lo E g n cap : Nat} {l : List α} (hl : l.length = n) (R : Row w lo E k (some ⟨g, 0, none⟩) n cap (l.flatMap fl)) : HoldsK (encI fl) k w g 0 l.toArray := by
  intro j hj
  simp only [size_flatK, List.size_toArray] at hj
  have hn : 0 < n := by
    rcases Nat.eq_zero_or_pos n with h0 | h0
    · rw [hl, h0, Nat.zero_mul] at hj; omega
    · exact h0
  obtain ⟨g', cs, hA, _, hB, _, _, _, hc⟩ := R.blk hn
  injection hA with hA
  injection hA with hA _
  subst hA
  refine ⟨?_, hB.frozen _⟩
  rw [Nat.zero_add, hB.cell, hc j (by rw [← hl]; exact hj)]
  show _ = some (flatK (encI fl) k l.toArray)[j]!
  rw [flat_cell fl k hk hk0 l j hj]
theorem row_sorted (hk : ∀ x, (fl x).length = k) (hk0 : 0 < k) {w : World} {lo E g n cap : Nat} {zs : List Int} (R : Row w lo E k (some ⟨g, 0, none⟩) n cap zs) (m : Nat) (d : Array α) (os : Array Obj) (hd : d.size = n) :
    Row (sortWorldK (encI fl) k w g 0 m d os) lo E k (some ⟨g, 0, none⟩) n cap (d.toList.flatMap fl) ∧ Wrote w (sortWorldK (encI fl) k w g 0 m d os) (some ⟨g, 0, none⟩) := by
  have hlt := R.lt _ rfl
  have hheap : ∀ j, j < w.heap.size → (sortWorldK (encI fl) k w g 0 m d os).heap[j]? = if j = g then w.heap[j]?.map (onCells (putCells id 0 (flatK (encI fl) k d))) else w.heap[j]? := by
    intro j hj
    unfold sortWorldK grow putRowK putRow mapBlock Sort.ahead
    simp only
    rw [Array.getElem?_append_left (by simpa using hj), Array.getElem?_modify]
    by_cases h : j = g
    · rw [if_pos h, if_pos h.symm]
    · rw [if_neg h, if_neg (fun e => h e.symm)]
  have hl : (d.toList.flatMap fl).length = n * k := by
    rw [flat_len fl k d.toList (fun a _ => hk a)]
    simp [hd]
  constructor
  · refine ⟨by rw [ints_length]; exact hl, ?_⟩
    rcases R.2 with ⟨hv, _⟩ | ⟨g', c', cur, hv, hlo, hg, hnc, hcm, hcs, htake⟩
    · cases hv
    · obtain ⟨rfl, rfl⟩ : g' = g ∧ c' = cap := by
        injection hv with h1 h2 h3
        injection h1 with h1
        injection h1 with h1 _ _
        exact ⟨h1.symm, h3.symm⟩
      refine .inr ⟨g', c', putCells id 0 (flatK (encI fl) k d) cur, rfl, hlo, ?_, hnc, hcm, by simp [putCells, hcs], ?_⟩
      · rw [hheap g' hlt, if_pos rfl, hg]
        rfl
      · have hle : n * k ≤ c' * k := Nat.mul_le_mul_right k hnc
        refine List.ext_getElem? (fun j => ?_)
        by_cases hj : j < n * k
        · rw [List.getElem?_take_of_lt hj, ints_get _ _ (by rw [hl]; exact hj)]
          have hjc : j < cur.size := by rw [hcs]; omega
          have e1 := flat_cell fl k hk hk0 d.toList j (by simpa [hd] using hj)
          simp only [Array.toArray_toList] at e1
          rw [Array.getElem?_toList]
          unfold putCells
          rw [Array.getElem?_mapIdx, Array.getElem?_eq_getElem hjc]
          simp only [Option.map_some, Nat.zero_le, true_and, Nat.zero_add, size_flatK, hd, hj, if_true, Nat.sub_zero, id]
          rw [e1]
        · rw [List.getElem?_eq_none (by simp; omega), List.getElem?_eq_none (by rw [ints_length, hl]; omega)]
  · refine ⟨rfl, rfl, rfl, ?_, fun j hj hne => ?_⟩
    · unfold sortWorldK grow putRowK putRow mapBlock Sort.ahead
      simp
    · rw [hheap j hj, if_neg (fun e => hne (by simp [e]))]
end
theorem permIn_all {α : Type} [Inhabited α] {d d' : Array α} (h : PermIn 0 d.size d d') : d'.toList.Perm d.toList := by
  obtain ⟨hs, _, hp⟩ := h
  have e1 : d'.extract 0 d.size = d' := by rw [← hs]; simp
  have e2 : d.extract 0 d.size = d := by simp
  rw [e1, e2] at hp
  exact hp
theorem sortedIn_all {α : Type} [Inhabited α] {lt : α → α → Bool} {d : Array α} {n : Nat} (hn : n = d.size) (h : SortedIn lt 0 n d) : d.toList.Pairwise (fun a b => lt b a = false) := by
  subst hn
  rw [List.pairwise_iff_getElem]
  intro i j hi hj hij
  have hj' : j < d.size := by simpa using hj
  have hi' : i < d.size := by simpa using hi
  have := h i j (Nat.zero_le _) hij hj'
  rw [getElem!_pos d j hj', getElem!_pos d i hi'] at this
  simpa using this
theorem compareInt_lt (x y : Int) : (Lib.compareInt x y < 0) ↔ x < y := by
  unfold Lib.compareInt
  split
  · simp; assumption
  · split <;> simp <;> omega
end Go.Proofs.Ytgpllffiahccjaa

/- The job lists by their orders: slices.SortFunc, chosen, FiredJobs, OpenJobs, DueJobs, and the plain law of JobsParted. -/
import Derived.Test.YtgpllffiahccjaaA1
import Derived.Test.YtgpllffiahccjaaMem
import Derived.Shelf.SlSortCmp.SmallK
import Derived.Shelf.Small.Bits
import Derived.Ground.SlsfProg
import Derived.Ground.NamesProg
import Derived.Test.YtgpllffiahccjaaFlatS
import Derived.Test.YtgpllffiahccjaaJ1
import Derived.Test.YtgpllffiahccjaaJ6
import Derived.Test.YtgpllffiahccjaaSJob
import Derived.Test.YtgpllffiahccjaaP7
import Derived.Test.YtgpllffiahccjaaOpenL
import Derived.Test.YtgpllffiahccjaaApp
import Derived.Test.YtgpllffiahccjaaBk
import Derived.Test.YtgpllffiahccjaaJ2
import Derived.Test.YtgpllffiahccjaaSInt64
import Derived.Test.YtgpllffiahccjaaSDue
import Derived.Deep.RegionHeldLaw
import Derived.Test.YtgpllffiahccjaaCp
import Derived.Deep.AppendLies
namespace Go.Proofs.Ytgpllffiahccjaa
set_option linter.unusedSimpArgs false
set_option linter.unusedVariables false
attribute [local go_sem] n_lt2 n_lt3 n_lt4 n_le2 n_le3
open Go.Shelf Go.RowKit Go.Lib Go.Sort
def sortJob_ren : Go.Shelf.Ren := ⟨fun | 6 => 124 | 15 => 147 | 14 => 149 | 28 => 163 | 29 => 164 | 20 => 165 | 21 => 166 | 22 => 167 | 23 => 168 | 24 => 169 | 25 => 170 | 26 => 171 | 27 => 172 | 46 => 181 | 47 => 177 | 48 => 178 | 49 => 182 | 50 => 183 | 57 => 185 | n => n, fun | 22 => 51 | 24 => 68 | 25 => 136 | 3 => 3 | 39 => 90 | 0 => 0 | 53 => 166 | 55 => 26 | 4 => 4 | 46 => 159 | 45 => 158 | 50 => 163 | 5 => 5 | 9 => 9 | 66 => 175 | 70 => 179 | 76 => 183 | 77 => 184 | n => n, fun | n => n⟩
theorem sortJob : Go.Proofs.SlLaysF0.n6 Try.prog sortJob_ren := {
  mixed := by kernel_rfl
  f6 := ⟨Try.f124.name, by decide, Try.func124.trans (congrArg some (by kernel_rfl))⟩
  f14 := ⟨Try.f149.name, by decide, Try.func149.trans (congrArg some (by kernel_rfl))⟩
  f15 := Try.func147.trans (congrArg some (by kernel_rfl))
  f20 := ⟨Try.f165.name, by decide, Try.func165.trans (congrArg some (by kernel_rfl))⟩
  f21 := ⟨Try.f166.name, by decide, Try.func166.trans (congrArg some (by kernel_rfl))⟩
  f22 := ⟨Try.f167.name, by decide, Try.func167.trans (congrArg some (by kernel_rfl))⟩
  f23 := ⟨Try.f168.name, by decide, Try.func168.trans (congrArg some (by kernel_rfl))⟩
  f24 := ⟨Try.f169.name, by decide, Try.func169.trans (congrArg some (by kernel_rfl))⟩
  f25 := ⟨Try.f170.name, by decide, Try.func170.trans (congrArg some (by kernel_rfl))⟩
  f26 := ⟨Try.f171.name, by decide, Try.func171.trans (congrArg some (by kernel_rfl))⟩
  f27 := ⟨Try.f172.name, by decide, Try.func172.trans (congrArg some (by kernel_rfl))⟩
  f28 := Try.func163.trans (congrArg some (by kernel_rfl))
  f29 := Try.func164.trans (congrArg some (by kernel_rfl))
  f46 := ⟨Try.f181.name, by decide, Try.func181.trans (congrArg some (by kernel_rfl))⟩
  f47 := Try.func177.trans (congrArg some (by kernel_rfl))
  f48 := Try.func178.trans (congrArg some (by kernel_rfl))
  f49 := ⟨Try.f182.name, by decide, Try.func182.trans (congrArg some (by kernel_rfl))⟩
  f50 := ⟨Try.f183.name, by decide, Try.func183.trans (congrArg some (by kernel_rfl))⟩
  f57 := ⟨Try.f185.name, by decide, Try.func185.trans (congrArg some (by kernel_rfl))⟩
  t0 := Try.underlying0
  a0 := Try.isAgg0
  z0 := Try.sizeOf0
  v0 := Try.zeroValue0
  t3 := Try.underlying3
  a3 := Try.isAgg3
  z3 := Try.sizeOf3
  v3 := Try.zeroValue3
  t4 := Try.underlying4
  a4 := Try.isAgg4
  z4 := Try.sizeOf4
  v4 := Try.zeroValue4
  t5 := Try.underlying5
  a5 := Try.isAgg5
  z5 := Try.sizeOf5
  v5 := Try.zeroValue5
  t9 := Try.underlying9
  a9 := Try.isAgg9
  z9 := Try.sizeOf9
  v9 := Try.zeroValue9
  t22 := Try.underlying51
  a22 := Try.isAgg51
  z22 := Try.sizeOf51
  v22 := Try.zeroValue51
  t25 := Try.underlying136
  a25 := Try.isAgg136
  z25 := Try.sizeOf136
  v25 := Try.zeroValue136
  t39 := Try.underlying90
  a39 := Try.isAgg90
  z39 := Try.sizeOf90
  v39 := Try.zeroValue90
  t45 := Try.underlying158
  a45 := Try.isAgg158
  z45 := Try.sizeOf158
  v45 := Try.zeroValue158
  t46 := Try.underlying159
  a46 := Try.isAgg159
  z46 := Try.sizeOf159
  v46 := Try.zeroValue159
  t50 := Try.underlying163
  a50 := Try.isAgg163
  z50 := Try.sizeOf163
  v50 := Try.zeroValue163
  t53 := Try.underlying166
  a53 := Try.isAgg166
  z53 := Try.sizeOf166
  v53 := Try.zeroValue166
  t55 := Try.underlying26
  a55 := Try.isAgg26
  z55 := Try.sizeOf26
  v55 := Try.zeroValue26
  t66 := Try.underlying175
  a66 := Try.isAgg175
  z66 := Try.sizeOf175
  v66 := Try.zeroValue175
  t70 := Try.underlying179
  a70 := Try.isAgg179
  z70 := Try.sizeOf179
  v70 := Try.zeroValue179
  t76 := Try.underlying183
  a76 := Try.isAgg183
  z76 := Try.sizeOf183
  v76 := Try.zeroValue183
  t77 := Try.underlying184
  a77 := Try.isAgg184
  z77 := Try.sizeOf184
  v77 := Try.zeroValue184 }
def sortDue_ren : Go.Shelf.Ren := ⟨fun | 6 => 118 | 15 => 147 | 14 => 146 | 28 => 163 | 29 => 164 | 20 => 155 | 21 => 156 | 22 => 157 | 23 => 158 | 24 => 159 | 25 => 160 | 26 => 161 | 27 => 162 | 46 => 176 | 47 => 177 | 48 => 178 | 49 => 179 | 50 => 180 | 57 => 184 | n => n, fun | 22 => 74 | 24 => 87 | 25 => 132 | 3 => 3 | 39 => 90 | 0 => 0 | 53 => 166 | 55 => 26 | 4 => 4 | 46 => 159 | 45 => 158 | 50 => 163 | 5 => 5 | 9 => 9 | 66 => 175 | 70 => 179 | 76 => 183 | 77 => 184 | n => n, fun | n => n⟩
theorem sortDue : Go.Proofs.SlLaysF0.n6 Try.prog sortDue_ren := {
  mixed := by kernel_rfl
  f6 := ⟨Try.f118.name, by decide, Try.func118.trans (congrArg some (by kernel_rfl))⟩
  f14 := ⟨Try.f146.name, by decide, Try.func146.trans (congrArg some (by kernel_rfl))⟩
  f15 := Try.func147.trans (congrArg some (by kernel_rfl))
  f20 := ⟨Try.f155.name, by decide, Try.func155.trans (congrArg some (by kernel_rfl))⟩
  f21 := ⟨Try.f156.name, by decide, Try.func156.trans (congrArg some (by kernel_rfl))⟩
  f22 := ⟨Try.f157.name, by decide, Try.func157.trans (congrArg some (by kernel_rfl))⟩
  f23 := ⟨Try.f158.name, by decide, Try.func158.trans (congrArg some (by kernel_rfl))⟩
  f24 := ⟨Try.f159.name, by decide, Try.func159.trans (congrArg some (by kernel_rfl))⟩
  f25 := ⟨Try.f160.name, by decide, Try.func160.trans (congrArg some (by kernel_rfl))⟩
  f26 := ⟨Try.f161.name, by decide, Try.func161.trans (congrArg some (by kernel_rfl))⟩
  f27 := ⟨Try.f162.name, by decide, Try.func162.trans (congrArg some (by kernel_rfl))⟩
  f28 := Try.func163.trans (congrArg some (by kernel_rfl))
  f29 := Try.func164.trans (congrArg some (by kernel_rfl))
  f46 := ⟨Try.f176.name, by decide, Try.func176.trans (congrArg some (by kernel_rfl))⟩
  f47 := Try.func177.trans (congrArg some (by kernel_rfl))
  f48 := Try.func178.trans (congrArg some (by kernel_rfl))
  f49 := ⟨Try.f179.name, by decide, Try.func179.trans (congrArg some (by kernel_rfl))⟩
  f50 := ⟨Try.f180.name, by decide, Try.func180.trans (congrArg some (by kernel_rfl))⟩
  f57 := ⟨Try.f184.name, by decide, Try.func184.trans (congrArg some (by kernel_rfl))⟩
  t0 := Try.underlying0
  a0 := Try.isAgg0
  z0 := Try.sizeOf0
  v0 := Try.zeroValue0
  t3 := Try.underlying3
  a3 := Try.isAgg3
  z3 := Try.sizeOf3
  v3 := Try.zeroValue3
  t4 := Try.underlying4
  a4 := Try.isAgg4
  z4 := Try.sizeOf4
  v4 := Try.zeroValue4
  t5 := Try.underlying5
  a5 := Try.isAgg5
  z5 := Try.sizeOf5
  v5 := Try.zeroValue5
  t9 := Try.underlying9
  a9 := Try.isAgg9
  z9 := Try.sizeOf9
  v9 := Try.zeroValue9
  t22 := Try.underlying74
  a22 := Try.isAgg74
  z22 := Try.sizeOf74
  v22 := Try.zeroValue74
  t25 := Try.underlying132
  a25 := Try.isAgg132
  z25 := Try.sizeOf132
  v25 := Try.zeroValue132
  t39 := Try.underlying90
  a39 := Try.isAgg90
  z39 := Try.sizeOf90
  v39 := Try.zeroValue90
  t45 := Try.underlying158
  a45 := Try.isAgg158
  z45 := Try.sizeOf158
  v45 := Try.zeroValue158
  t46 := Try.underlying159
  a46 := Try.isAgg159
  z46 := Try.sizeOf159
  v46 := Try.zeroValue159
  t50 := Try.underlying163
  a50 := Try.isAgg163
  z50 := Try.sizeOf163
  v50 := Try.zeroValue163
  t53 := Try.underlying166
  a53 := Try.isAgg166
  z53 := Try.sizeOf166
  v53 := Try.zeroValue166
  t55 := Try.underlying26
  a55 := Try.isAgg26
  z55 := Try.sizeOf26
  v55 := Try.zeroValue26
  t66 := Try.underlying175
  a66 := Try.isAgg175
  z66 := Try.sizeOf175
  v66 := Try.zeroValue175
  t70 := Try.underlying179
  a70 := Try.isAgg179
  z70 := Try.sizeOf179
  v70 := Try.zeroValue179
  t76 := Try.underlying183
  a76 := Try.isAgg183
  z76 := Try.sizeOf183
  v76 := Try.zeroValue183
  t77 := Try.underlying184
  a77 := Try.isAgg184
  z77 := Try.sizeOf184
  v77 := Try.zeroValue184 }
def bitsLen_ren : Go.Shelf.Ren := ⟨fun | 125 => 147 | 128 => 163 | 129 => 164 | n => n, fun | 46 => 90 | 3 => 3 | 51 => 166 | 53 => 26 | 4 => 4 | 5 => 5 | 9 => 9 | n => n, fun | n => n⟩
theorem bitsLen : Go.Proofs.Lays.n125 Try.prog bitsLen_ren := {
  mixed := by kernel_rfl
  f125 := Try.func147.trans (congrArg some (by kernel_rfl))
  f128 := Try.func163.trans (congrArg some (by kernel_rfl))
  f129 := Try.func164.trans (congrArg some (by kernel_rfl))
  t3 := Try.underlying3
  a3 := Try.isAgg3
  z3 := Try.sizeOf3
  v3 := Try.zeroValue3
  t4 := Try.underlying4
  a4 := Try.isAgg4
  z4 := Try.sizeOf4
  v4 := Try.zeroValue4
  t5 := Try.underlying5
  a5 := Try.isAgg5
  z5 := Try.sizeOf5
  v5 := Try.zeroValue5
  t9 := Try.underlying9
  a9 := Try.isAgg9
  z9 := Try.sizeOf9
  v9 := Try.zeroValue9
  t46 := Try.underlying90
  a46 := Try.isAgg90
  z46 := Try.sizeOf90
  v46 := Try.zeroValue90
  t51 := Try.underlying166
  a51 := Try.isAgg166
  z51 := Try.sizeOf166
  v51 := Try.zeroValue166
  t53 := Try.underlying26
  a53 := Try.isAgg26
  z53 := Try.sizeOf26
  v53 := Try.zeroValue26 }
theorem hlenX (n : Nat) (W : World) (h : n ≤ 12) : Calls Try.prog 147 #[.int .u64 n] W fun e w' => (∃ l : Int, e = .returned (.int .i64 l)) ∧ w' = W :=
  (Any.bits_Len bitsLen n W (by omega) (by omega)).mono fun _ _ ⟨he, hw⟩ => ⟨⟨_, he⟩, hw⟩
end Go.Proofs.Ytgpllffiahccjaa
namespace Go.Proofs.Ytgpllffiahccjaa
set_option linter.unusedSimpArgs false
set_option linter.unusedVariables false
attribute [local go_sem] n_lt2 n_lt3 n_lt4 n_le2 n_le3
open Go.RowKit Go.Sort Go.Shelf
section
variable {α : Type} [Inhabited α] (fl : α → List Int) (k : Nat)
/-- A struct's cells. -/
def encI (x : α) : List Value := ints (fl x)
theorem ints_get! (zs : List Int) (t : Nat) (h : t < zs.length) : (ints zs)[t]! = .int .i64 (zs.getD t 0) := by
  have := ints_get zs t h
  rw [List.getElem!_eq_getElem?_getD, this]
  rfl
theorem flat_cell (hk : ∀ x, (fl x).length = k) (hk0 : 0 < k) (l : List α) (t : Nat) (h : t < l.length * k) : (flatK (encI fl) k l.toArray)[t]! = .int .i64 ((l.flatMap fl).getD t 0) := by
  rw [get_flatK _ _ _ _ (by simpa using h)]
  have hq : t / k < l.length := Nat.div_lt_of_lt_mul (by rw [Nat.mul_comm]; exact h)
  have hr : t % k < k := Nat.mod_lt _ hk0
  unfold encI
  rw [ints_get! _ _ (by rw [hk]; exact hr)]
  have e1 := flat_getD fl k l (fun a _ => hk a) (t / k) (t % k) hq hr
  rw [show t / k * k + t % k = t by rw [Nat.mul_comm]; exact Nat.div_add_mod t k] at e1
  rw [e1]
  congr 2
  simp [hq]
theorem holdsK_of (hk : ∀ x, (fl x).length = k) (hk0 : 0 < k) {w : World} {lo E g n cap : Nat} {l : List α} (hl : l.length = n) (R : Row w lo E k (some ⟨g, 0, none⟩) n cap (l.flatMap fl)) : HoldsK (encI fl) k w g 0 l.toArray := by
  intro j hj
  simp only [size_flatK, List.size_toArray] at hj
  have hn : 0 < n := by
    rcases Nat.eq_zero_or_pos n with h0 | h0
    · rw [hl, h0, Nat.zero_mul] at hj; omega
    · exact h0
  obtain ⟨g', cs, hA, _, hB, _, _, _, hc⟩ := R.blk hn
  injection hA with hA
  injection hA with hA _
  subst hA
  refine ⟨?_, hB.frozen _⟩
  rw [Nat.zero_add, hB.cell, hc j (by rw [← hl]; exact hj)]
  show _ = some (flatK (encI fl) k l.toArray)[j]!
  rw [flat_cell fl k hk hk0 l j hj]
theorem row_sorted (hk : ∀ x, (fl x).length = k) (hk0 : 0 < k) {w : World} {lo E g n cap : Nat} {zs : List Int} (R : Row w lo E k (some ⟨g, 0, none⟩) n cap zs) (m : Nat) (d : Array α) (os : Array Obj) (hd : d.size = n) :
    Row (sortWorldK (encI fl) k w g 0 m d os) lo E k (some ⟨g, 0, none⟩) n cap (d.toList.flatMap fl) ∧ Wrote w (sortWorldK (encI fl) k w g 0 m d os) (some ⟨g, 0, none⟩) := by
  have hlt := R.lt _ rfl
  have hheap : ∀ j, j < w.heap.size → (sortWorldK (encI fl) k w g 0 m d os).heap[j]? = if j = g then w.heap[j]?.map (onCells (putCells id 0 (flatK (encI fl) k d))) else w.heap[j]? := by
    intro j hj
    unfold sortWorldK grow putRowK putRow mapBlock Sort.ahead
    simp only
    rw [Array.getElem?_append_left (by simpa using hj), Array.getElem?_modify]
    by_cases h : j = g
    · rw [if_pos h, if_pos h.symm]
    · rw [if_neg h, if_neg (fun e => h e.symm)]
  have hl : (d.toList.flatMap fl).length = n * k := by
    rw [flat_len fl k d.toList (fun a _ => hk a)]
    simp [hd]
  constructor
  · refine ⟨by rw [ints_length]; exact hl, ?_⟩
    rcases R.2 with ⟨hv, _⟩ | ⟨g', c', cur, hv, hlo, hg, hnc, hcm, hcs, htake⟩
    · cases hv
    · obtain ⟨rfl, rfl⟩ : g' = g ∧ c' = cap := by
        injection hv with h1 h2 h3
        injection h1 with h1
        injection h1 with h1 _ _
        exact ⟨h1.symm, h3.symm⟩
      refine .inr ⟨g', c', putCells id 0 (flatK (encI fl) k d) cur, rfl, hlo, ?_, hnc, hcm, by simp [putCells, hcs], ?_⟩
      · rw [hheap g' hlt, if_pos rfl, hg]
        rfl
      · have hle : n * k ≤ c' * k := Nat.mul_le_mul_right k hnc
        refine List.ext_getElem? (fun j => ?_)
        by_cases hj : j < n * k
        · rw [List.getElem?_take_of_lt hj, ints_get _ _ (by rw [hl]; exact hj)]
          have hjc : j < cur.size := by rw [hcs]; omega
          have e1 := flat_cell fl k hk hk0 d.toList j (by simpa [hd] using hj)
          simp only [Array.toArray_toList] at e1
          rw [Array.getElem?_toList]
          unfold putCells
          rw [Array.getElem?_mapIdx, Array.getElem?_eq_getElem hjc]
          simp only [Option.map_some, Nat.zero_le, true_and, Nat.zero_add, size_flatK, hd, hj, if_true, Nat.sub_zero, id]
          rw [e1]
        · rw [List.getElem?_eq_none (by simp; omega), List.getElem?_eq_none (by rw [ints_length, hl]; omega)]
  · refine ⟨rfl, rfl, rfl, ?_, fun j hj hne => ?_⟩
    · unfold sortWorldK grow putRowK putRow mapBlock Sort.ahead
      simp
    · rw [hheap j hj, if_neg (fun e => hne (by simp [e]))]
end
theorem permIn_all {α : Type} [Inhabited α] {d d' : Array α} (h : PermIn 0 d.size d d') : d'.toList.Perm d.toList := by
  obtain ⟨hs, _, hp⟩ := h
  have e1 : d'.extract 0 d.size = d' := by rw [← hs]; simp
  have e2 : d.extract 0 d.size = d := by simp
  rw [e1, e2] at hp
  exact hp
theorem sortedIn_all {α : Type} [Inhabited α] {lt : α → α → Bool} {d : Array α} {n : Nat} (hn : n = d.size) (h : SortedIn lt 0 n d) : d.toList.Pairwise (fun a b => lt b a = false) := by
  subst hn
  rw [List.pairwise_iff_getElem]
  intro i j hi hj hij
  have hj' : j < d.size := by simpa using hj
  have hi' : i < d.size := by simpa using hi
  have := h i j (Nat.zero_le _) hij hj'
  rw [getElem!_pos d j hj', getElem!_pos d i hi'] at this
  simpa using this
theorem compareInt_lt (x y : Int) : (Lib.compareInt x y < 0) ↔ x < y := by
  unfold Lib.compareInt
  split
  · simp; assumption
  · split <;> simp <;> omega
end Go.Proofs.Ytgpllffiahccjaa
namespace Go.Proofs.Ytgpllffiahccjaa
set_option linter.unusedSimpArgs false
set_option linter.unusedVariables false
attribute [local go_sem] n_lt2 n_lt3 n_lt4 n_le2 n_le3
open Go.RowKit Go.Sort Go.Shelf
attribute [local go_sem] Ext.cell Ext.frozen
theorem isNaN64_any (x : Int) (w : World) : Calls Try.prog 148 #[.int .i64 x] w fun e w' => e = .returned (.bool false) ∧ w = w' := by
  go_enter Try.func148, Try.ntmps148
  go_wp2
  go_ret
  exact ⟨ret_bool (by simp), rfl⟩
theorem compare64_any (x y : Int) (w : World) : Calls Try.prog 121 #[.int .i64 x, .int .i64 y] w fun e w' => e = .returned (.int .i64 (Lib.compareInt x y)) ∧ w = w' := by
  unfold Lib.compareInt
  by_cases h1 : x < y
  · rw [if_pos h1]
    go_enter Try.func121, Try.ntmps121
    go_wp2_with ((go_at_call 148; refine (isNaN64_any _ _).mono ?_; rintro e w' ⟨rfl, rfl⟩))
    go_ret
    exact ⟨rfl, rfl⟩
  · rw [if_neg h1]
    by_cases h2 : y < x
    · rw [if_pos h2]
      go_enter Try.func121, Try.ntmps121
      go_wp2_with ((go_at_call 148; refine (isNaN64_any _ _).mono ?_; rintro e w' ⟨rfl, rfl⟩))
      go_ret
      exact ⟨rfl, rfl⟩
    · rw [if_neg h2]
      go_enter Try.func121, Try.ntmps121
      go_wp2_with ((go_at_call 148; refine (isNaN64_any _ _).mono ?_; rintro e w' ⟨rfl, rfl⟩))
      go_ret
      exact ⟨rfl, rfl⟩
def flJ (j : Jb) : List Int := [j.i, j.d, j.k, j.v, j.f]
set_option maxHeartbeats 1000000 in
theorem firedLt_any (x y : Jb) (W : World) : Calls Try.prog 125 #[.agg (encI flJ x).toArray, .agg (encI flJ y).toArray] W fun e w' => e = .returned (.int .i64 (Lib.compareInt x.f y.f)) ∧ ∃ q os', w' = grow (W.drewN q) os' := by
  have hcon := fun W' => compare64_any x.f y.f W'
  generalize Lib.compareInt x.f y.f = r at hcon ⊢
  obtain ⟨x0, x1, x2, x3, x4⟩ := x
  obtain ⟨y0, y1, y2, y3, y4⟩ := y
  show Calls Try.prog 125 #[.agg #[.int .i64 x0, .int .i64 x1, .int .i64 x2, .int .i64 x3, .int .i64 x4], .agg #[.int .i64 y0, .int .i64 y1, .int .i64 y2, .int .i64 y3, .int .i64 y4]] W _
  go_enter Try.func125, Try.ntmps125
  go_wp2_with (go_at_call 121; refine (hcon _).mono ?_; rintro e w' ⟨rfl, rfl⟩)
  go_ret
  exact ⟨rfl, 0, _, by rw [alloc_eq_grow, alloc_eq_grow, grow_grow]; rfl⟩
theorem isAggJob (w : World) : (isAgg 68).run Try.prog w = .ok true w := by kernel_rfl
theorem sizeOfJob (w : World) : (Go.sizeOf 68).run Try.prog w = .ok 5 w := by kernel_rfl
theorem ltJ_swo : SWO (ltOf fun x y : Jb => Lib.compareInt x.f y.f) := by
  constructor
  · intro x; unfold ltOf; rw [decide_eq_false]; rw [compareInt_lt]; omega
  · intro x y z h1 h2; unfold ltOf at *; rw [decide_eq_true_eq, compareInt_lt] at *; omega
  · intro x y z h1 h2; unfold ltOf at *; rw [decide_eq_false_iff_not, compareInt_lt] at *; omega
set_option maxHeartbeats 1000000 in
/-- slices.SortFunc on a row of jobs of the call's own, by Fired. -/
theorem sortFired_any (lo g n cap : Nat) (l : List Jb) (w : World) (hl : l.length = n) (hn : n ≤ 12) (R : Row w lo 68 5 (some ⟨g, 0, none⟩) n cap (JB l)) :
    Calls Try.prog 124 #[.slice (some ⟨g, 0, none⟩) n cap, .func (.func 125) #[] #[]] w fun e w' => e = .returned (.tuple #[]) ∧ ∃ s : List Jb, s.Perm l ∧ s.Pairwise (fun a b => ¬ b.f < a.f) ∧ Row w' lo 68 5 (some ⟨g, 0, none⟩) n cap (JB s) ∧ Wrote w w' (some ⟨g, 0, none⟩) := by
  have eg : ∀ args w, (callFunc 125 args).run Try.prog w = .ok (.enter 125 args) w := enters_of Try.func125 (by kernel_rfl) rfl
  have hk : ∀ x, (flJ x).length = 5 := fun _ => rfl
  have hsz : l.toArray.size = n := by simpa using hl
  have hcon := AnyQ.slices_SortFunc_small_sorted sortJob 5 isAggJob sizeOfJob (encI flJ) (fun x => by unfold encI; rw [ints_length]; exact hk x) (fun x v hv => ints_oneCell' _ v hv) (fun x y => Lib.compareInt x.f y.f) 125 #[] ltJ_swo g 0 cap l.toArray w eg (fun _ _ _ _ x y => firedLt_any x y _) (holdsK_of flJ 5 hk (by decide) hl R) (R.lt _ rfl) (by rw [hsz]; exact hn) hlenX
  rw [hsz] at hcon
  refine hcon.mono ?_
  rintro e w' ⟨rfl, d, m, os, hp, hs, rfl⟩
  have hdn : d.size = n := by rw [hp.1]; exact hsz
  obtain ⟨r1, r2⟩ := row_sorted flJ 5 hk (by decide) R m d os hdn
  rw [← hsz] at hp
  refine ⟨rfl, d.toList, by simpa using permIn_all hp, ?_, r1, r2⟩
  have := sortedIn_all hdn.symm hs
  refine this.imp (fun {a b} h => ?_)
  unfold ltOf at h
  rw [decide_eq_false_iff_not, compareInt_lt] at h
  exact h
end Go.Proofs.Ytgpllffiahccjaa
namespace Go.Proofs.Ytgpllffiahccjaa
set_option linter.unusedSimpArgs false
set_option linter.unusedVariables false
attribute [local go_sem] n_lt2 n_lt3 n_lt4 n_le2 n_le3
open Go.RowKit
attribute [local go_sem] Ext.cell Ext.frozen
theorem beqD (a b : Int) : (a == b) = decide (a = b) := by by_cases h : a = b <;> simp [h]
theorem btr {lo : Nat} {w a b : World} (h1 : Below lo w a) (h2 : Below lo a b) : Below lo w b :=
  ⟨h2.os.trans h1.os, h2.tape.trans h1.tape, h2.output.trans h1.output, Nat.le_trans h1.size h2.size, fun k hk => (h2.block k hk).trans (h1.block k hk)⟩
theorem job_open_any (x0 x1 x2 x3 x4 : Int) (w : World) : Calls Try.prog 109 #[.agg #[.int .i64 x0, .int .i64 x1, .int .i64 x2, .int .i64 x3, .int .i64 x4]] w fun e w' => e = .returned (.bool (openJ ⟨x0, x1, x2, x3, x4⟩)) ∧ Below w.heap.size w w' := by
  go_enter Try.func109, Try.ntmps109
  go_wp2
  go_ret
  exact ⟨ret_bool (by unfold openJ; exact beqD _ _), by (repeat' (first | (with_reducible exact Below.refl _ _) | (with_reducible assumption) | (with_reducible refine Below.alloc ?_ ?_ _) | (with_reducible refine Below.drew ?_) | (with_reducible refine Below.setCell ?_ ?_ _) | (with_reducible refine bstep (by assumption) ?_ ?_) | (with_reducible exact Nat.le_refl _) | omega | (simp [*]; done) | (simp [*]; omega)))⟩
set_option maxRecDepth 100000 in
set_option maxHeartbeats 4000000 in
theorem chosen_open_any (A : Option Addr) (n cap : Nat) (l : List Jb) (w : World) (hS : Sl w 5 A n (JB l)) (hl : l.length = n) (hn : n ≤ 1000) :
    Calls Try.prog 117 #[.slice A n cap, .func (.func 109) #[] #[]] w fun e w' => ∃ g c, e = .returned (.slice (some ⟨g, 0, none⟩) (l.filter openJ).length c) ∧ Row w' w.heap.size 68 5 (some ⟨g, 0, none⟩) (l.filter openJ).length c (JB (l.filter openJ)) ∧ Below w.heap.size w w' := by
  have HS := Lib.hid hS
  have hL := Lib.hid hl
  clear hS hl
  go_enter Try.func117, Try.ntmps117
  go_wp2
  go_loopw [5, 11] (fun o iv wr => ∃ (k : Nat) (g c : Nat) (y : List Jb), k ≤ n ∧ iv = .int .i64 (k : Nat) ∧ o = .slice (some ⟨g, 0, none⟩) y.length c ∧ Row wr w.heap.size 68 5 (some ⟨g, 0, none⟩) y.length c (JB y) ∧ Hid (y = (l.take k).filter openJ ∧ y.length ≤ k) ∧ Below w.heap.size w wr) (fun _ iv _ => n - (intOf iv).toNat)
  case atStart => exact ⟨0, w.heap.size, 0, [], Nat.zero_le _, rfl, rfl, row0p (Blk.new w _ _) (Nat.le_refl _), Lib.hid ⟨rfl, Nat.le_refl _⟩, (Below.refl _ _).alloc (Nat.le_refl _) _⟩
  case round =>
    obtain ⟨k, g, c, y, hk, rfl, rfl, R, hy, hbl⟩ := hrel
    have hz := hbl.size
    by_cases hlt : k < n
    · have hlt' : (k : Int) < (n : Int) := by omega
      obtain ⟨b, off, rfl, hb, hcell⟩ := sl_jobs HS.out (by omega)
      obtain ⟨h0, h1, h2, h3, h4⟩ := hcell k hlt
      clear hcell
      rw [← hbl.cell (by exact hb)] at h0 h1 h2 h3 h4
      have htk : l.take (k + 1) = l.take k ++ [l.getD k default] := take_succ_getD (by rw [hL.out]; exact hlt)
      have hTK := Lib.hid htk
      clear htk
      generalize l.getD k default = pk at h0 h1 h2 h3 h4 hTK
      obtain ⟨x0, x1, x2, x3, x4⟩ := pk
      simp only at h0 h1 h2 h3 h4
      have hbr : b < wr.heap.size := Nat.lt_of_lt_of_le hb hbl.size
      have c1 := fun v => job_open_any x0 x1 x2 x3 x4 v
      cases hp : openJ ⟨x0, x1, x2, x3, x4⟩ with
      | false =>
        rw [hp] at c1
        have hy2 := Lib.hid (show y = (l.take (k + 1)).filter openJ ∧ y.length ≤ k + 1 by rw [hTK.out, List.filter_append, List.filter_cons, hp]; simp only [Bool.false_eq_true, if_false, List.filter_nil, List.append_nil]; exact ⟨hy.out.1, Nat.le_succ_of_le hy.out.2⟩)
        have C1 := Lib.hid c1
        clear c1 hp hy hTK
        go_wp2_with fail
        refine calls_named ?_
        rintro v hv
        have bv : Below wr.heap.size wr v := by rw [hv]; exact (Below.refl _ _).alloc (Nat.le_refl _) _
        clear hv
        refine (C1.out v).mono ?_
        rintro e w1 ⟨rfl, b1⟩
        have R1 := (R.below bv).below b1
        have bb := bthen bv b1
        go_wp2
        exact ⟨⟨k + 1, g, c, y, by omega, by go_num, rfl, R1, hy2, bthen hbl bb⟩, by simp [intOf]; omega⟩
      | true =>
        rw [hp] at c1
        have hy2 := Lib.hid (show y ++ [⟨x0, x1, x2, x3, x4⟩] = (l.take (k + 1)).filter openJ ∧ (y ++ [(⟨x0, x1, x2, x3, x4⟩ : Jb)]).length ≤ k + 1 by rw [hTK.out, List.filter_append, List.filter_cons, hp]; simp only [if_true, List.filter_nil]; exact ⟨by rw [hy.out.1], by have := hy.out.2; simp; omega⟩)
        have hyk := hy.out.2
        have C1 := Lib.hid c1
        clear c1 hp hy hTK
        go_wp2_with fail
        refine calls_named ?_
        rintro v hv
        have bv : Below wr.heap.size wr v := by rw [hv]; exact (Below.refl _ _).alloc (Nat.le_refl _) _
        have K0 : Blk v wr.heap.size 68 #[.int .i64 x0, .int .i64 x1, .int .i64 x2, .int .i64 x3, .int .i64 x4] := by rw [hv]; exact Blk.new_at _ _ _ _ rfl
        clear hv
        refine (C1.out v).mono ?_
        rintro e w1 ⟨rfl, b1⟩
        have R1 := (R.below bv).below b1
        have bb := bthen bv b1
        have hbl1 := bthen hbl bb
        have K1 := K0.below b1
        have hz1 := hbl1.size
        have k0 := K1.cell 0
        have k1 := K1.cell 1
        have k2 := K1.cell 2
        have k3 := K1.cell 3
        have k4 := K1.cell 4
        have kl := K1.lt
        clear h0 h1 h2 h3 h4 K0 b1 bv bb
        go_wp2_with (at_builtin; refine wpList_append_row rfl _ _ 51 rfl 68 (.agg #[.int .i64 0, .int .i64 0, .int .i64 0, .int .i64 0, .int .i64 0]) 5 40 Try.underlying51 info_Job (by first | kernel_rfl | simp [Value.cells]) (by decide) w.heap.size (some ⟨g, 0, none⟩) y.length c (JB y) rfl (World.ownsRow.alloc R1 _) ⟨w1.heap.size, 0, none⟩ 1 1 [x0, x1, x2, x3, x4] rfl rfl (cell_five_at _ _ _ _ _ _ _ _ rfl) (by unfold maxLen; omega) (by omega) (by simp; omega) ?_; intro A5 c5 w5 R5 B5; obtain ⟨g5, cs5, rfl, _⟩ := R5.blk (Nat.succ_pos _))
        have hB := btr ((Below.refl w.heap.size w1).alloc hz1 (.cells #[.int .i64 x0, .int .i64 x1, .int .i64 x2, .int .i64 x3, .int .i64 x4] 68)) B5
        have e5 : JB y ++ [x0, x1, x2, x3, x4] = JB (y ++ [⟨x0, x1, x2, x3, x4⟩]) := by rw [JB_append]; rfl
        rw [e5] at R5
        have e6 : y.length + 1 = (y ++ [(⟨x0, x1, x2, x3, x4⟩ : Jb)]).length := by simp
        rw [e6] at R5 ⊢
        exact ⟨⟨k + 1, g5, c5, _, by omega, by go_num, rfl, R5, hy2, btr hbl1 hB⟩, by simp [intOf]; omega⟩
    · have hkn : k = n := by omega
      subst hkn
      have hlt' : ¬ (k : Int) < (k : Int) := by omega
      go_wp2
      go_ret
      have e1 : y = l.filter openJ := by rw [hy.out.1, List.take_of_length_le (Nat.le_of_eq hL.out)]
      subst e1
      exact ⟨g, c, rfl, R, hbl⟩
theorem job_closed_any (x0 x1 x2 x3 x4 : Int) (w : World) : Calls Try.prog 115 #[.agg #[.int .i64 x0, .int .i64 x1, .int .i64 x2, .int .i64 x3, .int .i64 x4]] w fun e w' => e = .returned (.bool (firedJ ⟨x0, x1, x2, x3, x4⟩)) ∧ Below w.heap.size w w' := by
  go_enter Try.func115, Try.ntmps115
  go_wp2
  go_ret
  exact ⟨ret_bool (by unfold firedJ openJ; rw [← beqD]; rfl), by (repeat' (first | (with_reducible exact Below.refl _ _) | (with_reducible assumption) | (with_reducible refine Below.alloc ?_ ?_ _) | (with_reducible refine Below.drew ?_) | (with_reducible refine Below.setCell ?_ ?_ _) | (with_reducible refine bstep (by assumption) ?_ ?_) | (with_reducible exact Nat.le_refl _) | omega | (simp [*]; done) | (simp [*]; omega)))⟩
set_option maxRecDepth 100000 in
set_option maxHeartbeats 4000000 in
theorem chosen_closed_any (A : Option Addr) (n cap : Nat) (l : List Jb) (w : World) (hS : Sl w 5 A n (JB l)) (hl : l.length = n) (hn : n ≤ 1000) :
    Calls Try.prog 117 #[.slice A n cap, .func (.func 115) #[] #[]] w fun e w' => ∃ g c, e = .returned (.slice (some ⟨g, 0, none⟩) (l.filter firedJ).length c) ∧ Row w' w.heap.size 68 5 (some ⟨g, 0, none⟩) (l.filter firedJ).length c (JB (l.filter firedJ)) ∧ Below w.heap.size w w' := by
  have HS := Lib.hid hS
  have hL := Lib.hid hl
  clear hS hl
  go_enter Try.func117, Try.ntmps117
  go_wp2
  go_loopw [5, 11] (fun o iv wr => ∃ (k : Nat) (g c : Nat) (y : List Jb), k ≤ n ∧ iv = .int .i64 (k : Nat) ∧ o = .slice (some ⟨g, 0, none⟩) y.length c ∧ Row wr w.heap.size 68 5 (some ⟨g, 0, none⟩) y.length c (JB y) ∧ Hid (y = (l.take k).filter firedJ ∧ y.length ≤ k) ∧ Below w.heap.size w wr) (fun _ iv _ => n - (intOf iv).toNat)
  case atStart => exact ⟨0, w.heap.size, 0, [], Nat.zero_le _, rfl, rfl, row0p (Blk.new w _ _) (Nat.le_refl _), Lib.hid ⟨rfl, Nat.le_refl _⟩, (Below.refl _ _).alloc (Nat.le_refl _) _⟩
  case round =>
    obtain ⟨k, g, c, y, hk, rfl, rfl, R, hy, hbl⟩ := hrel
    have hz := hbl.size
    by_cases hlt : k < n
    · have hlt' : (k : Int) < (n : Int) := by omega
      obtain ⟨b, off, rfl, hb, hcell⟩ := sl_jobs HS.out (by omega)
      obtain ⟨h0, h1, h2, h3, h4⟩ := hcell k hlt
      clear hcell
      rw [← hbl.cell (by exact hb)] at h0 h1 h2 h3 h4
      have htk : l.take (k + 1) = l.take k ++ [l.getD k default] := take_succ_getD (by rw [hL.out]; exact hlt)
      have hTK := Lib.hid htk
      clear htk
      generalize l.getD k default = pk at h0 h1 h2 h3 h4 hTK
      obtain ⟨x0, x1, x2, x3, x4⟩ := pk
      simp only at h0 h1 h2 h3 h4
      have hbr : b < wr.heap.size := Nat.lt_of_lt_of_le hb hbl.size
      have c1 := fun v => job_closed_any x0 x1 x2 x3 x4 v
      cases hp : firedJ ⟨x0, x1, x2, x3, x4⟩ with
      | false =>
        rw [hp] at c1
        have hy2 := Lib.hid (show y = (l.take (k + 1)).filter firedJ ∧ y.length ≤ k + 1 by rw [hTK.out, List.filter_append, List.filter_cons, hp]; simp only [Bool.false_eq_true, if_false, List.filter_nil, List.append_nil]; exact ⟨hy.out.1, Nat.le_succ_of_le hy.out.2⟩)
        have C1 := Lib.hid c1
        clear c1 hp hy hTK
        go_wp2_with fail
        refine calls_named ?_
        rintro v hv
        have bv : Below wr.heap.size wr v := by rw [hv]; exact (Below.refl _ _).alloc (Nat.le_refl _) _
        clear hv
        refine (C1.out v).mono ?_
        rintro e w1 ⟨rfl, b1⟩
        have R1 := (R.below bv).below b1
        have bb := bthen bv b1
        go_wp2
        exact ⟨⟨k + 1, g, c, y, by omega, by go_num, rfl, R1, hy2, bthen hbl bb⟩, by simp [intOf]; omega⟩
      | true =>
        rw [hp] at c1
        have hy2 := Lib.hid (show y ++ [⟨x0, x1, x2, x3, x4⟩] = (l.take (k + 1)).filter firedJ ∧ (y ++ [(⟨x0, x1, x2, x3, x4⟩ : Jb)]).length ≤ k + 1 by rw [hTK.out, List.filter_append, List.filter_cons, hp]; simp only [if_true, List.filter_nil]; exact ⟨by rw [hy.out.1], by have := hy.out.2; simp; omega⟩)
        have hyk := hy.out.2
        have C1 := Lib.hid c1
        clear c1 hp hy hTK
        go_wp2_with fail
        refine calls_named ?_
        rintro v hv
        have bv : Below wr.heap.size wr v := by rw [hv]; exact (Below.refl _ _).alloc (Nat.le_refl _) _
        have K0 : Blk v wr.heap.size 68 #[.int .i64 x0, .int .i64 x1, .int .i64 x2, .int .i64 x3, .int .i64 x4] := by rw [hv]; exact Blk.new_at _ _ _ _ rfl
        clear hv
        refine (C1.out v).mono ?_
        rintro e w1 ⟨rfl, b1⟩
        have R1 := (R.below bv).below b1
        have bb := bthen bv b1
        have hbl1 := bthen hbl bb
        have K1 := K0.below b1
        have hz1 := hbl1.size
        have k0 := K1.cell 0
        have k1 := K1.cell 1
        have k2 := K1.cell 2
        have k3 := K1.cell 3
        have k4 := K1.cell 4
        have kl := K1.lt
        clear h0 h1 h2 h3 h4 K0 b1 bv bb
        go_wp2_with (at_builtin; refine wpList_append_row rfl _ _ 51 rfl 68 (.agg #[.int .i64 0, .int .i64 0, .int .i64 0, .int .i64 0, .int .i64 0]) 5 40 Try.underlying51 info_Job (by first | kernel_rfl | simp [Value.cells]) (by decide) w.heap.size (some ⟨g, 0, none⟩) y.length c (JB y) rfl (World.ownsRow.alloc R1 _) ⟨w1.heap.size, 0, none⟩ 1 1 [x0, x1, x2, x3, x4] rfl rfl (cell_five_at _ _ _ _ _ _ _ _ rfl) (by unfold maxLen; omega) (by omega) (by simp; omega) ?_; intro A5 c5 w5 R5 B5; obtain ⟨g5, cs5, rfl, _⟩ := R5.blk (Nat.succ_pos _))
        have hB := btr ((Below.refl w.heap.size w1).alloc hz1 (.cells #[.int .i64 x0, .int .i64 x1, .int .i64 x2, .int .i64 x3, .int .i64 x4] 68)) B5
        have e5 : JB y ++ [x0, x1, x2, x3, x4] = JB (y ++ [⟨x0, x1, x2, x3, x4⟩]) := by rw [JB_append]; rfl
        rw [e5] at R5
        have e6 : y.length + 1 = (y ++ [(⟨x0, x1, x2, x3, x4⟩ : Jb)]).length := by simp
        rw [e6] at R5 ⊢
        exact ⟨⟨k + 1, g5, c5, _, by omega, by go_num, rfl, R5, hy2, btr hbl1 hB⟩, by simp [intOf]; omega⟩
    · have hkn : k = n := by omega
      subst hkn
      have hlt' : ¬ (k : Int) < (k : Int) := by omega
      go_wp2
      go_ret
      have e1 : y = l.filter firedJ := by rw [hy.out.1, List.take_of_length_le (Nat.le_of_eq hL.out)]
      subst e1
      exact ⟨g, c, rfl, R, hbl⟩
end Go.Proofs.Ytgpllffiahccjaa
namespace Go.Proofs.Ytgpllffiahccjaa
set_option linter.unusedSimpArgs false
set_option linter.unusedVariables false
attribute [local go_sem] n_lt2 n_lt3 n_lt4 n_le2 n_le3
open Go.RowKit
attribute [local go_sem] Ext.cell Ext.frozen
/-- What FiredJobs hands back. -/
def firedR1 (l : List Jb) : List Int := if jobsB l = true then firL l else []
theorem firedR1_len (l : List Jb) : (firedR1 l).length ≤ 8 := by
  unfold firedR1
  split
  · rename_i h
    unfold firL
    rw [List.length_map]
    exact Nat.le_trans (firedS_len l) (jobsB_all h).1
  · exact Nat.zero_le _
theorem cell_one_at (w : World) (x0 : Value) (t : TypeId) (g : Nat) (hg : g = w.heap.size) : ∀ j u, [x0][j]? = some u → (w.alloc (.cells #[x0] t)).cell? ((⟨g, 0, none⟩ : Addr).add j) = some u := by
  intro j u hu
  subst hg
  match j, hu with
  | 0, hu => simp at hu; subst hu; exact (Blk.new w t #[x0]).cell 0
  | j + 1, hu => simp at hu
theorem take_map_succ {l : List Jb} {k : Nat} (h : k < l.length) : (l.take k).map (·.i) ++ [(l.getD k default).i] = (l.take (k + 1)).map (·.i) := by
  rw [take_succ_getD h, List.map_append]
  rfl
set_option maxRecDepth 100000 in
set_option maxHeartbeats 4000000 in
theorem firedJobs_any (A : Option Addr) (n cap : Nat) (l : List Jb) (w : World) (hS : Sl w 5 A n (JB l)) (hl : l.length = n) (hn : n ≤ maxLen) :
    Calls Try.prog 61 #[.slice A n cap] w (RetRow w 2 1 (firedR1 l).length (firedR1 l)) := by
  have c1 := jobsOk_any A n cap l w hS hl hn
  cases hb : jobsB l with
  | false =>
    have hr : firedR1 l = [] := by unfold firedR1; rw [hb]; rfl
    rw [hr]
    rw [hb] at c1
    go_enter Try.func61, Try.ntmps61
    go_wp2_with fail
    refine c1.mono ?_
    rintro e w1 ⟨rfl, b1⟩
    go_wp2
    go_ret
    exact RetRow.mk (Row.nil _ _ _ _) b1
  | true =>
    have hr : firedR1 l = firL l := by unfold firedR1; rw [hb]; rfl
    rw [hr]
    rw [hb] at c1
    have h8 := (jobsB_all hb).1
    have hn8 : n ≤ 8 := by omega
    have HS := Lib.hid hS
    have HB := Lib.hid hb
    have hfl : (l.filter firedJ).length ≤ 8 := Nat.le_trans (List.length_filter_le _ _) h8
    clear hr hS hb h8
    go_enter Try.func61, Try.ntmps61
    go_wp2_with fail
    refine c1.mono ?_
    rintro e w1 ⟨rfl, b1⟩
    clear c1
    go_wp2_with fail
    refine (chosen_closed_any A n cap l w1 (HS.out.below b1) hl (by omega)).mono ?_
    rintro e w2 ⟨g, c, rfl, R2, b2⟩
    have f2 := bthen b1 b2
    have hz := b1.size
    obtain ⟨y, hy⟩ : ∃ y, l.filter firedJ = y := ⟨_, rfl⟩
    rw [hy] at R2 hfl
    rw [hy]
    have HY := Lib.hid hy
    obtain ⟨m, hm⟩ : ∃ m, y.length = m := ⟨_, rfl⟩
    rw [hm] at R2 hfl
    rw [hm]
    have HM := Lib.hid hm
    clear hy hm b1 b2
    go_wp2_with fail
    refine (sortFired_any w1.heap.size g m c y w2 HM.out (by omega) R2).mono ?_
    rintro e w3 ⟨rfl, s, hp, hs, R3, W3⟩
    have f3 : Below w.heap.size w w3 := W3.below f2 f2.size (fun x hx => by obtain rfl := Option.some.inj hx; exact Nat.le_trans hz (R2.ge _ rfl))
    have hfs : s = firedS l := firedS_of HB.out (by have := HY.out; unfold fireds; rw [this]; exact hp) hs
    have hsm : s.length = m := by rw [hp.length_eq]; exact HM.out
    have HFS := Lib.hid (And.intro hfs hsm)
    have hS3 := R3.sl
    have hz3 := Nat.le_trans hz (R3.ge _ rfl)
    have HS3 := Lib.hid hS3
    clear hfs hp hs R2 R3 W3 hS3 hsm HS HY f2
    go_wp2
    go_loopw [4, 17] (fun o iv wr => ∃ (k : Nat) (A0 : Option Addr) (c0 : Nat), k ≤ m ∧ iv = .int .i64 (k : Nat) ∧ o = .slice A0 k c0 ∧ Row wr w3.heap.size 2 1 A0 k c0 ((s.take k).map (·.i)) ∧ Below w3.heap.size w3 wr) (fun _ iv _ => m - (intOf iv).toNat)
    case atStart => exact ⟨0, some ⟨w3.heap.size, 0, none⟩, 0, Nat.zero_le _, rfl, rfl, row0p (Blk.new w3 _ _) (Nat.le_refl _), (Below.refl _ _).alloc (Nat.le_refl _) _⟩
    case round =>
      obtain ⟨k, A0, c0, hk, rfl, rfl, R, hbl⟩ := hrel
      by_cases hlt : k < m
      · have hlt' : (k : Int) < (m : Int) := by omega
        obtain ⟨b, off, hA, hbb, hcell⟩ := sl_jobs HS3.out (by omega)
        injection hA with hA
        injection hA with hA1 hA2
        subst hA1 hA2
        obtain ⟨h0, h1, h2, h3, h4⟩ := hcell k hlt
        clear hcell
        rw [← hbl.cell (by exact hbb)] at h0 h1 h2 h3 h4
        simp only [Nat.zero_add] at h0 h1 h2 h3 h4
        have hts := Lib.hid (take_map_succ (l := s) (k := k) (by rw [HFS.out.2]; exact hlt))
        generalize s.getD k default = pk at h0 h1 h2 h3 h4 hts
        obtain ⟨x0, x1, x2, x3, x4⟩ := pk
        simp only at h0 h1 h2 h3 h4
        have hbr : g < wr.heap.size := Nat.lt_of_lt_of_le hbb hbl.size
        have hzr := Nat.le_trans f3.size hbl.size
        go_wp2_with (at_builtin; refine wpList_append_row rfl _ _ 39 rfl 2 (.int .i64 0) 1 8 Try.underlying39 info_Int64 (by first | kernel_rfl | simp [Value.cells]) (by decide) w3.heap.size A0 k c0 ((s.take k).map (·.i)) rfl ((R.alloc _).alloc _) ⟨wr.heap.size + 1, 0, none⟩ 1 1 [x0] rfl rfl (cell_one_at _ _ _ _ (by simp)) (by unfold maxLen; omega) (by omega) (by have := hbl.size; simp; omega) ?_; intro A5 c5 w5 R5 B5)
        rw [hts.out] at R5
        have hB : Below w3.heap.size w3 w5 := btr (((hbl.alloc hbl.size _).alloc (by have := hbl.size; simp; omega) _)) B5
        exact ⟨⟨k + 1, A5, c5, by omega, by go_num, rfl, R5, hB⟩, by simp [intOf]; omega⟩
      · have hkn : k = m := by omega
        subst hkn
        have hlt' : ¬ (k : Int) < (k : Int) := by omega
        go_wp2
        go_ret
        have e1 : (s.take k).map (·.i) = firL l := by rw [List.take_of_length_le (Nat.le_of_eq HFS.out.2), HFS.out.1]; rfl
        have e2 : (firL l).length = k := by unfold firL; rw [List.length_map, ← HFS.out.1]; exact HFS.out.2
        rw [e1] at R
        rw [e2]
        exact RetRow.mk (R.mono f3.size) (bthen f3 hbl)
end Go.Proofs.Ytgpllffiahccjaa
namespace Go.Proofs.Ytgpllffiahccjaa
set_option linter.unusedSimpArgs false
set_option linter.unusedVariables false
attribute [local go_sem] n_lt2 n_lt3 n_lt4 n_le2 n_le3
open Go.RowKit
attribute [local go_sem] Ext.cell Ext.frozen
def slLen : Value → Nat
  | .slice _ n _ => n
  | _ => 0
/-- What the inner loop has found so far. -/
def BestAt (l : List Jb) (last : Int) (j : Nat) (bv : Value) : Prop :=
  (bv = .int .i64 (-1) ∧ ∀ t, t < j → (l.getD t default).f ≤ last) ∨ ∃ b : Nat, bv = .int .i64 (b : Nat) ∧ b < j ∧ last < (l.getD b default).f ∧ ∀ t, t < j → last < (l.getD t default).f → (l.getD b default).f ≤ (l.getD t default).f
theorem upto1 {Q : Nat → Prop} {j : Nat} (h : ∀ t, t < j → Q t) (hj : Q j) : ∀ t, t < j + 1 → Q t := fun t ht => by
  rcases Nat.lt_or_ge t j with h1 | h1
  · exact h t h1
  · obtain rfl : t = j := by omega
    exact hj
set_option maxRecDepth 100000 in
set_option maxHeartbeats 8000000 in
theorem specFiredJobs_any (A : Option Addr) (n cap : Nat) (l : List Jb) (w : World) (hS : Sl w 5 A n (JB l)) (hl : l.length = n) (hn : n ≤ maxLen) :
    Calls Try.prog 60 #[.slice A n cap] w (RetRow w 2 1 (firedR1 l).length (firedR1 l)) := by
  have HS := Lib.hid (fun (v : World) (hB : Below w.heap.size w v) => hS.below hB)
  have c1 := fun (v : World) (hv : Sl v 5 A n (JB l)) => specJobsOk_any A n cap l v hv hl hn
  clear hS
  cases hb : jobsB l with
  | false =>
    have hr : firedR1 l = [] := by unfold firedR1; rw [hb]; rfl
    rw [hr]
    rw [hb] at c1
    have C1 := Lib.hid c1
    clear c1
    go_enter Try.func60, Try.ntmps60
    go_wp2_with fail
    refine calls_named ?_
    rintro v hv
    have bv : Below w.heap.size w v := by rw [hv]; exact (Below.refl _ _).alloc (Nat.le_refl _) _
    have R0 : Row v w.heap.size 2 1 (some ⟨w.heap.size, 0, none⟩) 0 0 [] := by rw [hv]; exact row0p (Blk.new w _ _) (Nat.le_refl _)
    clear hv
    refine (C1.out v (HS.out v bv)).mono ?_
    rintro e w1 ⟨rfl, b1⟩
    go_wp2
    go_ret
    exact RetRow.mk (R0.below b1) (bthen bv b1)
  | true =>
    have hr : firedR1 l = firL l := by unfold firedR1; rw [hb]; rfl
    rw [hr]
    rw [hb] at c1
    have C1 := Lib.hid c1
    have h8 := (jobsB_all hb).1
    have hn8 : n ≤ 8 := by omega
    have HB := Lib.hid hb
    have hL := Lib.hid hl
    obtain ⟨S, hs⟩ : ∃ x, firedS l = x := ⟨_, rfl⟩
    have hs8 : S.length ≤ n := by rw [← hs, ← hl]; exact firedS_len l
    have HSS := Lib.hid hs
    clear c1 hr hb h8 hl hs
    go_enter Try.func60, Try.ntmps60
    go_wp2_with fail
    refine calls_named ?_
    rintro v hv
    have bv : Below w.heap.size w v := by rw [hv]; exact (Below.refl _ _).alloc (Nat.le_refl _) _
    have R0 : Row v w.heap.size 2 1 (some ⟨w.heap.size, 0, none⟩) 0 0 [] := by rw [hv]; exact row0p (Blk.new w _ _) (Nat.le_refl _)
    clear hv
    refine (C1.out v (HS.out v bv)).mono ?_
    rintro e w1 ⟨rfl, b1⟩
    have R1 := R0.below b1
    have f1 := bthen bv b1
    clear R0 bv b1
    go_wp2
    go_loopw [3, 4] (fun o lv wr => ∃ (k : Nat) (A0 : Option Addr) (c0 : Nat), k ≤ S.length ∧ o = .slice A0 k c0 ∧ lv = .int .i64 (lastF l k) ∧ Row wr w.heap.size 2 1 A0 k c0 ((S.take k).map (·.i)) ∧ Below w.heap.size w wr) (fun o _ _ => S.length - slLen o)
    case atStart => exact ⟨0, _, _, Nat.zero_le _, rfl, rfl, R1, f1⟩
    case round =>
      clear R1 f1
      obtain ⟨k, A0, c0, hk, rfl, rfl, R, hbl⟩ := hrel
      obtain ⟨la, hla⟩ : ∃ x, lastF l k = x := ⟨_, rfl⟩
      rw [hla]
      have HLA := Lib.hid hla
      clear hla
      go_wp2
      go_loopw [5, 6] (fun bv iv wq => ∃ j : Nat, j ≤ n ∧ iv = .int .i64 (j : Nat) ∧ Hid (BestAt l la j bv) ∧ Row wq w.heap.size 2 1 A0 k c0 ((S.take k).map (·.i)) ∧ Below w.heap.size w wq) (fun _ iv _ => n - (intOf iv).toNat)
      case atStart => exact ⟨0, Nat.zero_le _, rfl, Lib.hid (.inl ⟨rfl, fun t ht => absurd ht (by omega)⟩), R, hbl⟩
      case round =>
        clear R hbl
        obtain ⟨j, hj, rfl, hbest, R, hbl⟩ := hrel
        by_cases hjn : j < n
        · have hjn' : (j : Int) < (n : Int) := by omega
          obtain ⟨b0, off, rfl, hb0, hcell⟩ := sl_jobs (HS.out wr hbl) (by omega)
          have HC := Lib.hid (fun i hi => (hcell i hi).2.2.2.2)
          clear hcell
          have hfj := HC.out j hjn
          obtain ⟨fj, hfe⟩ : ∃ x, (l.getD j default).f = x := ⟨_, rfl⟩
          rw [hfe] at hfj
          have HF := Lib.hid hfe
          clear hfe
          rcases hbest.out with ⟨rfl, hno⟩ | ⟨b, rfl, hbj, hbl2, hmin⟩
          · have HNO := Lib.hid hno
            clear hno hbest
            by_cases hlt : la < fj
            · go_wp2
              ((refine wp_region_ext (by kernel_rfl) (by kernel_rfl) ?_); (repeat (any_goals (first | go_big_quiet_step (fail) | (refine wpQuiet_step (fun K hK => ?_); go_simp; split <;> (refine hK _ ?_; clear hK K)) | quiet_step (fail)))); (all_goals (refine wpQuiet_nil ?_; rintro _ ⟨z, rfl⟩; have hb' := z.h; generalize z.w = w1 at hb' ⊢; clear z; (first | (have hb2 := bstep hb' hb hb.size; clear hb' hcb hfb hz1 hz2 hz3 hz4 hb; have hb := hb2; clear hb2) | (have hb := hb'; clear hb')); obtain ⟨hcb, hfb, hz1, hz2, hz3, hz4⟩ := bcell hb; (try simp only [World.size_alloc, World.size_setCell, World.size_drew, Nat.lt_add_one_iff, Nat.add_assoc, Nat.reduceAdd] at hz1 hz2 hz3 hz4))))
              all_goals go_wp2
              all_goals exact ⟨⟨j + 1, by omega, by go_num, Lib.hid (.inr ⟨j, rfl, by omega, by rw [HF.out]; exact hlt, upto1 (fun t ht h => absurd (HNO.out t ht) (by omega)) (fun _ => Int.le_refl _)⟩), R.below hb, bthen hbl hb⟩, by simp [intOf]; omega⟩
            · have hle : fj ≤ la := by omega
              have hdf : decide (la < fj) = false := decide_eq_false hlt
              go_wp2
              ((refine wp_region_ext (by kernel_rfl) (by kernel_rfl) ?_); (repeat (any_goals (first | go_big_quiet_step (fail) | (refine wpQuiet_step (fun K hK => ?_); go_simp; split <;> (refine hK _ ?_; clear hK K)) | quiet_step (fail)))); (all_goals (refine wpQuiet_nil ?_; rintro _ ⟨z, rfl⟩; have hb' := z.h; generalize z.w = w1 at hb' ⊢; clear z; (first | (have hb2 := bstep hb' hb hb.size; clear hb' hcb hfb hz1 hz2 hz3 hz4 hb; have hb := hb2; clear hb2) | (have hb := hb'; clear hb')); obtain ⟨hcb, hfb, hz1, hz2, hz3, hz4⟩ := bcell hb; (try simp only [World.size_alloc, World.size_setCell, World.size_drew, Nat.lt_add_one_iff, Nat.add_assoc, Nat.reduceAdd] at hz1 hz2 hz3 hz4))))
              all_goals go_wp2
              all_goals exact ⟨⟨j + 1, by omega, by go_num, Lib.hid (.inl ⟨rfl, upto1 HNO.out (by rw [HF.out]; exact hle)⟩), R.below hb, bthen hbl hb⟩, by simp [intOf]; omega⟩
          · have hfb := HC.out b (by omega)
            obtain ⟨fb, hfe⟩ : ∃ x, (l.getD b default).f = x := ⟨_, rfl⟩
            rw [hfe] at hfb hbl2 hmin
            have HFB := Lib.hid hfe
            have HMIN := Lib.hid hmin
            clear hfe hmin hbest
            have hb0i : (0 : Int) ≤ (b : Int) := by omega
            have hbn : (b : Int) < (n : Int) := by omega
            by_cases hlt : la < fj
            · by_cases hlt2 : fj < fb
              · go_wp2
                ((refine wp_region_ext (by kernel_rfl) (by kernel_rfl) ?_); (repeat (any_goals (first | go_big_quiet_step (fail) | (refine wpQuiet_step (fun K hK => ?_); go_simp; split <;> (refine hK _ ?_; clear hK K)) | quiet_step (fail)))); (all_goals (refine wpQuiet_nil ?_; rintro _ ⟨z, rfl⟩; have hb' := z.h; generalize z.w = w1 at hb' ⊢; clear z; (first | (have hb2 := bstep hb' hb hb.size; clear hb' hcb hfb hz1 hz2 hz3 hz4 hb; have hb := hb2; clear hb2) | (have hb := hb'; clear hb')); obtain ⟨hcb, hfb, hz1, hz2, hz3, hz4⟩ := bcell hb; (try simp only [World.size_alloc, World.size_setCell, World.size_drew, Nat.lt_add_one_iff, Nat.add_assoc, Nat.reduceAdd] at hz1 hz2 hz3 hz4))))
                all_goals go_wp2
                all_goals exact ⟨⟨j + 1, by omega, by go_num, Lib.hid (.inr ⟨j, rfl, by omega, by rw [HF.out]; exact hlt, upto1 (fun t ht h => by rw [HF.out]; have := HMIN.out t ht h; omega) (fun _ => Int.le_refl _)⟩), R.below hb, bthen hbl hb⟩, by simp [intOf]; omega⟩
              · have hle2 : fb ≤ fj := by omega
                have hdf : decide (fj < fb) = false := decide_eq_false hlt2
                go_wp2
                ((refine wp_region_ext (by kernel_rfl) (by kernel_rfl) ?_); (repeat (any_goals (first | go_big_quiet_step (fail) | (refine wpQuiet_step (fun K hK => ?_); go_simp; split <;> (refine hK _ ?_; clear hK K)) | quiet_step (fail)))); (all_goals (refine wpQuiet_nil ?_; rintro _ ⟨z, rfl⟩; have hb' := z.h; generalize z.w = w1 at hb' ⊢; clear z; (first | (have hb2 := bstep hb' hb hb.size; clear hb' hcb hfb hz1 hz2 hz3 hz4 hb; have hb := hb2; clear hb2) | (have hb := hb'; clear hb')); obtain ⟨hcb, hfb, hz1, hz2, hz3, hz4⟩ := bcell hb; (try simp only [World.size_alloc, World.size_setCell, World.size_drew, Nat.lt_add_one_iff, Nat.add_assoc, Nat.reduceAdd] at hz1 hz2 hz3 hz4))))
                all_goals go_wp2
                all_goals exact ⟨⟨j + 1, by omega, by go_num, Lib.hid (.inr ⟨b, rfl, by omega, by rw [HFB.out]; exact hbl2, upto1 (fun t ht h => by rw [HFB.out]; exact HMIN.out t ht h) (fun _ => by rw [HFB.out, HF.out]; exact hle2)⟩), R.below hb, bthen hbl hb⟩, by simp [intOf]; omega⟩
            · have hle : fj ≤ la := by omega
              have hdf : decide (la < fj) = false := decide_eq_false hlt
              go_wp2
              ((refine wp_region_ext (by kernel_rfl) (by kernel_rfl) ?_); (repeat (any_goals (first | go_big_quiet_step (fail) | (refine wpQuiet_step (fun K hK => ?_); go_simp; split <;> (refine hK _ ?_; clear hK K)) | quiet_step (fail)))); (all_goals (refine wpQuiet_nil ?_; rintro _ ⟨z, rfl⟩; have hb' := z.h; generalize z.w = w1 at hb' ⊢; clear z; (first | (have hb2 := bstep hb' hb hb.size; clear hb' hcb hfb hz1 hz2 hz3 hz4 hb; have hb := hb2; clear hb2) | (have hb := hb'; clear hb')); obtain ⟨hcb, hfb, hz1, hz2, hz3, hz4⟩ := bcell hb; (try simp only [World.size_alloc, World.size_setCell, World.size_drew, Nat.lt_add_one_iff, Nat.add_assoc, Nat.reduceAdd] at hz1 hz2 hz3 hz4))))
              all_goals go_wp2
              all_goals exact ⟨⟨j + 1, by omega, by go_num, Lib.hid (.inr ⟨b, rfl, by omega, by rw [HFB.out]; exact hbl2, upto1 (fun t ht h => by rw [HFB.out]; exact HMIN.out t ht h) (fun h => by rw [HF.out] at h; omega)⟩), R.below hb, bthen hbl hb⟩, by simp [intOf]; omega⟩
        · have hjn2 : j = n := by omega
          subst hjn2
          have hjn' : ¬ (j : Int) < (j : Int) := by omega
          rcases hbest.out with ⟨rfl, hno⟩ | ⟨b, rfl, hbj, hbl2, hmin⟩
          · have hke : k = S.length := by rw [← HSS.out]; exact fired_end HB.out (by rw [HSS.out]; exact hk) (fun t ht => by rw [HLA.out]; have := hno t (by rw [← hL.out]; exact ht); omega)
            have HKE := Lib.hid hke
            clear hno hbest hke
            go_wp2
            go_ret
            have e1 : (S.take k).map (·.i) = firL l := by rw [List.take_of_length_le (Nat.le_of_eq HKE.out.symm), ← HSS.out]; rfl
            have e2 : (firL l).length = k := by unfold firL; rw [List.length_map, HSS.out]; exact HKE.out.symm
            rw [e1] at R
            rw [e2]
            exact RetRow.mk R hbl
          · have hnx := fired_next HB.out (by rw [HSS.out]; exact hk) (by rw [hL.out]; exact hbj) (by rw [HLA.out]; exact hbl2) (fun t ht h => hmin t (by rw [← hL.out]; exact ht) (by rw [HLA.out] at h; exact h))
            obtain ⟨hkS, hget⟩ := hnx
            rw [HSS.out] at hkS hget
            obtain ⟨b0, off, rfl, hb0, hcell⟩ := sl_jobs (HS.out w (Below.refl _ _)) (by omega)
            obtain ⟨h0, _, _, _, h4⟩ := hcell b hbj
            clear hcell
            have HW4 := Lib.hid h4
            rw [← hbl.cell (by exact hb0)] at h0 h4
            have hts := Lib.hid (take_map_succ (l := S) (k := k) hkS)
            have hlf := Lib.hid (show lastF l (k + 1) = (l.getD b default).f by rw [lastF_succ, HSS.out, hget])
            rw [hget] at hts
            clear hget hbest hmin
            obtain ⟨xi, hxi⟩ : ∃ x, (l.getD b default).i = x := ⟨_, rfl⟩
            obtain ⟨xf, hxf⟩ : ∃ x, (l.getD b default).f = x := ⟨_, rfl⟩
            rw [hxi] at h0 hts
            rw [hxf] at h4 hlf hbl2 HW4
            clear hxi hxf
            have hb0i : ¬ (b : Int) < 0 := by omega
            have hb0j : (0 : Int) ≤ (b : Int) := by omega
            have hbn : (b : Int) < (j : Int) := by omega
            have hbr : b0 < wr.heap.size := Nat.lt_of_lt_of_le hb0 hbl.size
            have hz := hbl.size
            have hlen8 : S.length ≤ 8 := by omega
            go_wp2_with (at_builtin; refine wpList_append_row rfl _ _ 39 rfl 2 (.int .i64 0) 1 8 Try.underlying39 info_Int64 (by first | kernel_rfl | simp [Value.cells]) (by decide) w.heap.size A0 k c0 ((S.take k).map (·.i)) rfl (R.alloc _) ⟨wr.heap.size, 0, none⟩ 1 1 [xi] rfl rfl (cell_one_at _ _ _ _ rfl) (by unfold maxLen; omega) (by omega) (by simp; omega) ?_; intro A5 c5 w5 R5 B5; have Bx : Below w.heap.size w w5 := btr (hbl.alloc hz _) B5; have h4x : w5.cell? ⟨b0, off + b * 5 + 4, none⟩ = some (.int .i64 xf) := (Bx.cell (p := ⟨b0, off + b * 5 + 4, none⟩) hb0).trans HW4.out; have hbx := Nat.lt_of_lt_of_le hb0 Bx.size)
            rw [hts.out] at R5
            exact ⟨⟨k + 1, A5, c5, hkS, rfl, by rw [hlf.out], R5, Bx⟩, by simp [slLen]; omega⟩
end Go.Proofs.Ytgpllffiahccjaa
namespace Go.Proofs.Ytgpllffiahccjaa
set_option linter.unusedSimpArgs false
set_option linter.unusedVariables false
attribute [local go_sem] n_lt2 n_lt3 n_lt4 n_le2 n_le3
open Go.RowKit Go.Sort Go.Shelf
attribute [local go_sem] Ext.cell Ext.frozen
theorem held_al {W v : World} (h : ∀ b o, b < W.heap.size → v.cell? ⟨b, o, none⟩ = W.cell? ⟨b, o, none⟩) (hz : W.heap.size ≤ v.heap.size) (x : Obj) : ∀ b o, b < W.heap.size → (v.alloc x).cell? ⟨b, o, none⟩ = W.cell? ⟨b, o, none⟩ :=
  fun b o hb => (((Below.refl v.heap.size v).alloc (Nat.le_refl _) x).cell (p := ⟨b, o, none⟩) (Nat.lt_of_lt_of_le hb hz)).trans (h b o hb)
theorem held_dr {W v : World} (h : ∀ b o, b < W.heap.size → v.cell? ⟨b, o, none⟩ = W.cell? ⟨b, o, none⟩) : ∀ b o, b < W.heap.size → v.drew.cell? ⟨b, o, none⟩ = W.cell? ⟨b, o, none⟩ := h
set_option maxHeartbeats 1000000 in
theorem or2_any (g : Nat) (c1 c2 : Int) (w : World) (h0 : w.cell? ⟨g, 0, none⟩ = some (.int .i64 c1)) (h1 : w.cell? ⟨g, 1, none⟩ = some (.int .i64 c2)) (hg : g < w.heap.size) :
    Calls Try.prog 120 #[.slice (some ⟨g, 0, none⟩) 2 2] w fun e w' => e = .returned (.int .i64 (if c1 = 0 then c2 else c1)) ∧ w' = w := by
  obtain ⟨r, hr⟩ : ∃ x, (if c1 = 0 then c2 else c1) = x := ⟨_, rfl⟩
  rw [hr]
  have HR := Lib.hid hr
  clear hr
  go_enter Try.func120, Try.ntmps120
  go_wp2
  go_loopw [8] (fun i wr => ∃ k : Nat, k ≤ 2 ∧ i = .int .i64 (k : Nat) ∧ wr = w ∧ Hid ((0 < k → c1 = 0) ∧ (1 < k → c2 = 0))) (fun i _ => 2 - (intOf i).toNat)
  case atStart => exact ⟨0, by omega, rfl, rfl, Lib.hid ⟨fun h => absurd h (by omega), fun h => absurd h (by omega)⟩⟩
  case round =>
    obtain ⟨k, hk, rfl, rfl, hz⟩ := hrel
    rcases (by omega : k = 0 ∨ k = 1 ∨ k = 2) with rfl | rfl | rfl
    · by_cases hc : c1 = 0
      · have HC := Lib.hid hc
        subst hc
        go_wp2
        exact ⟨⟨1, by omega, by go_num, by trivial, Lib.hid ⟨fun _ => by trivial, fun h => absurd h (by omega)⟩⟩, by simp [intOf]⟩
      · have hcb : (c1 == 0) = false := by rw [beqD]; exact decide_eq_false hc
        go_wp2
        go_ret
        exact ⟨ret_int (by have := HR.out; rw [if_neg hc] at this; exact this), rfl⟩
    · have hc1 := hz.out.1 (by omega)
      by_cases hc : c2 = 0
      · subst hc
        have hr0 : r = 0 := by have := HR.out; rw [if_pos hc1] at this; exact this.symm
        clear hz
        go_wp2
        exact ⟨⟨2, by omega, by go_num, by trivial, Lib.hid ⟨fun _ => hc1, fun _ => by trivial⟩⟩, by simp [intOf]⟩
      · have hcb : (c2 == 0) = false := by rw [beqD]; exact decide_eq_false hc
        have hr2 : c2 = r := by have := HR.out; rw [if_pos hc1] at this; exact this
        have HR2 := Lib.hid hr2
        clear hz hr2
        go_wp2
        go_ret
        exact ⟨ret_int HR2.out, rfl⟩
    · have hc1 := hz.out.1 (by omega)
      have hc2 := hz.out.2 (by omega)
      have hr0 : (0 : Int) = r := by have := HR.out; rw [if_pos hc1, hc2] at this; exact this
      have HR2 := Lib.hid hr0
      clear hz hr0
      go_wp2
      go_ret
      exact ⟨ret_int HR2.out, rfl⟩
def flD (j : Du) : List Int := [j.i, j.d]
def cmpD (x y : Du) : Int := if Lib.compareInt x.d y.d = 0 then Lib.compareInt x.i y.i else Lib.compareInt x.d y.d
theorem cmpD_lt (x y : Du) : cmpD x y < 0 ↔ duLt x y := by
  unfold cmpD duLt Lib.compareInt
  repeat' split
  all_goals omega
theorem grow3 (W : World) (a b c : Obj) : (((W.alloc a).alloc b).drew).alloc c = grow (W.drewN 1) #[a, b, c] := by
  rw [alloc_eq_grow, alloc_eq_grow, alloc_eq_grow, grow_grow]
  show grow (grow W.drew (#[a] ++ #[b])) #[c] = _
  rw [grow_grow]
  rfl
set_option maxHeartbeats 4000000 in
theorem openLt_any (x y : Du) (W : World) : Calls Try.prog 119 #[.agg (encI flD x).toArray, .agg (encI flD y).toArray] W fun e w' => e = .returned (.int .i64 (cmpD x y)) ∧ ∃ q os', w' = grow (W.drewN q) os' := by
  obtain ⟨x0, x1⟩ := x
  obtain ⟨y0, y1⟩ := y
  have k1 := fun W' => compare64_any x1 y1 W'
  have k2 := fun W' => compare64_any x0 y0 W'
  show Calls Try.prog 119 #[.agg #[.int .i64 x0, .int .i64 x1], .agg #[.int .i64 y0, .int .i64 y1]] W _
  unfold cmpD
  simp only
  generalize Lib.compareInt x1 y1 = c1 at k1 ⊢
  generalize Lib.compareInt x0 y0 = c2 at k2 ⊢
  obtain ⟨r, hr⟩ : ∃ x, (if c1 = 0 then c2 else c1) = x := ⟨_, rfl⟩
  rw [hr]
  have HR := Lib.hid hr
  have K1 := Lib.hid k1
  have K2 := Lib.hid k2
  clear k1 k2 hr
  go_enter Try.func119, Try.ntmps119
  go_wp2_with fail
  obtain ⟨V, hV⟩ : ∃ x : World, x = (W.alloc (.cells #[.int .i64 x0, .int .i64 x1] 87)).alloc (.cells #[.int .i64 y0, .int .i64 y1] 87) := ⟨_, rfl⟩
  rw [← hV]
  have BX : Blk V W.heap.size 87 #[.int .i64 x0, .int .i64 x1] := by rw [hV]; exact (Blk.new_at _ _ _ _ rfl).alloc _
  have BY : Blk V (W.heap.size + 1) 87 #[.int .i64 y0, .int .i64 y1] := by rw [hV]; exact Blk.new_at _ _ _ _ (by simp)
  have HV := Lib.hid hV
  clear hV
  have a0 := BX.cell 0
  have a1 := BX.cell 1
  have b0 := BY.cell 0
  have b1 := BY.cell 1
  have la := BX.lt
  have lb := BY.lt
  simp only [List.getElem?_toArray, List.getElem?_cons_zero, List.getElem?_cons_succ] at a0 a1 b0 b1
  have hS0 : ∀ b o, b < V.heap.size → V.cell? ⟨b, o, none⟩ = V.cell? ⟨b, o, none⟩ := fun b o hb => rfl
  have hOr0 := fun (t : TypeId) => or2_any V.heap.size c1 c2 (V.drew.alloc (.cells #[.int .i64 c1, .int .i64 c2] t)) ((Blk.new V.drew t _).cell 0) ((Blk.new V.drew t _).cell 1) ((Blk.new V.drew t _).lt)
  rw [HR.out] at hOr0
  have hOr := Lib.hid hOr0
  clear hOr0
  go_region_held_law (fun w' => ∀ b o, b < V.heap.size → w'.cell? ⟨b, o, none⟩ = V.cell? ⟨b, o, none⟩) (repeat' (first | assumption | with_reducible exact Nat.le_refl _ | with_reducible exact hS0 | with_reducible refine held_dr ?_ | with_reducible refine held_al ?_ ?_ _)) (first
    | (go_at_call 120; refine (hOr.out _).mono ?_; rintro e w' ⟨rfl, rfl⟩)
    | (go_at_call 121; with_reducible refine (K1.out _).mono ?_; rintro e w' ⟨rfl, rfl⟩)
    | (go_at_call 121; with_reducible refine (K2.out _).mono ?_; rintro e w' ⟨rfl, rfl⟩))
  go_wp2
  go_ret
  exact ⟨rfl, 1, _, by rw [HV.out]; exact grow3 _ _ _ _⟩
theorem isAggDue (w : World) : (isAgg 87).run Try.prog w = .ok true w := by kernel_rfl
theorem sizeOfDue (w : World) : (Go.sizeOf 87).run Try.prog w = .ok 2 w := by kernel_rfl
theorem ltD_swo : SWO (ltOf cmpD) := by
  constructor
  · intro x; unfold ltOf; rw [decide_eq_false]; rw [cmpD_lt]; unfold duLt; omega
  · intro x y z h1 h2; unfold ltOf at *; rw [decide_eq_true_eq, cmpD_lt] at *; unfold duLt at *; omega
  · intro x y z h1 h2; unfold ltOf at *; rw [decide_eq_false_iff_not, cmpD_lt] at *; unfold duLt at *; omega
set_option maxHeartbeats 1000000 in
/-- slices.SortFunc on a row of the call's own, by Due and then by Id. -/
theorem sortOpen_any (lo g n cap : Nat) (l : List Du) (w : World) (hl : l.length = n) (hn : n ≤ 12) (R : Row w lo 87 2 (some ⟨g, 0, none⟩) n cap (DU l)) :
    Calls Try.prog 118 #[.slice (some ⟨g, 0, none⟩) n cap, .func (.func 119) #[] #[]] w fun e w' => e = .returned (.tuple #[]) ∧ ∃ s : List Du, s.Perm l ∧ s.Pairwise (fun a b => ¬ duLt b a) ∧ Row w' lo 87 2 (some ⟨g, 0, none⟩) n cap (DU s) ∧ Wrote w w' (some ⟨g, 0, none⟩) := by
  have eg : ∀ args w, (callFunc 119 args).run Try.prog w = .ok (.enter 119 args) w := enters_of Try.func119 (by kernel_rfl) rfl
  have hk : ∀ x, (flD x).length = 2 := fun _ => rfl
  have hsz : l.toArray.size = n := by simpa using hl
  have hcon := AnyQ.slices_SortFunc_small_sorted sortDue 2 isAggDue sizeOfDue (encI flD) (fun x => by unfold encI; rw [ints_length]; exact hk x) (fun x v hv => ints_oneCell' _ v hv) cmpD 119 #[] ltD_swo g 0 cap l.toArray w eg (fun _ _ _ _ x y => openLt_any x y _) (holdsK_of flD 2 hk (by decide) hl R) (R.lt _ rfl) (by rw [hsz]; exact hn) hlenX
  rw [hsz] at hcon
  refine hcon.mono ?_
  rintro e w' ⟨rfl, d, m, os, hp, hs, rfl⟩
  have hdn : d.size = n := by rw [hp.1]; exact hsz
  obtain ⟨r1, r2⟩ := row_sorted flD 2 hk (by decide) R m d os hdn
  rw [← hsz] at hp
  refine ⟨rfl, d.toList, by simpa using permIn_all hp, ?_, r1, r2⟩
  have := sortedIn_all hdn.symm hs
  refine this.imp (fun {a b} h => ?_)
  unfold ltOf at h
  rw [decide_eq_false_iff_not, cmpD_lt] at h
  exact h
end Go.Proofs.Ytgpllffiahccjaa
namespace Go.Proofs.Ytgpllffiahccjaa
set_option linter.unusedSimpArgs false
set_option linter.unusedVariables false
attribute [local go_sem] n_lt2 n_lt3 n_lt4 n_le2 n_le3
open Go.RowKit
attribute [local go_sem] Ext.cell Ext.frozen
/-- What OpenJobs hands back. -/
def openR (l : List Jb) : List Du := if jobsB l = true then openL l else []
theorem openR_len (l : List Jb) : (openR l).length ≤ 8 := by
  unfold openR
  split
  · rename_i h
    exact Nat.le_trans (openL_len l) (jobsB_all h).1
  · exact Nat.zero_le _
theorem take_duOf_succ {l : List Jb} {k : Nat} (h : k < l.length) : DU ((l.take k).map duOf) ++ [(l.getD k default).i, (l.getD k default).d] = DU ((l.take (k + 1)).map duOf) := by
  rw [take_succ_getD h, List.map_append, DU_append]
  rfl
theorem cell_two_at' (w : World) (x0 x1 : Value) (t : TypeId) (g : Nat) (hg : g = w.heap.size) : ∀ j u, [x0, x1][j]? = some u → (w.alloc (.cells #[x0, x1] t)).cell? ((⟨g, 0, none⟩ : Addr).add j) = some u := by
  subst hg
  intro j u hj
  match j, hj with
  | 0, hj => simp at hj; subst hj; simp [Addr.add]
  | 1, hj => simp at hj; subst hj; simp [Addr.add]
set_option maxRecDepth 100000 in
set_option maxHeartbeats 4000000 in
theorem openJobs_any (A : Option Addr) (n cap : Nat) (l : List Jb) (w : World) (hS : Sl w 5 A n (JB l)) (hl : l.length = n) (hn : n ≤ maxLen) :
    Calls Try.prog 54 #[.slice A n cap] w (RetRow w 87 2 (openR l).length (DU (openR l))) := by
  have c1 := jobsOk_any A n cap l w hS hl hn
  cases hb : jobsB l with
  | false =>
    have hr : openR l = [] := by unfold openR; rw [hb]; rfl
    rw [hr]
    rw [hb] at c1
    go_enter Try.func54, Try.ntmps54
    go_wp2_with fail
    refine c1.mono ?_
    rintro e w1 ⟨rfl, b1⟩
    go_wp2
    go_ret
    exact RetRow.mk (Row.nil _ _ _ _) b1
  | true =>
    have hr : openR l = openL l := by unfold openR; rw [hb]; rfl
    rw [hr]
    rw [hb] at c1
    have h8 := (jobsB_all hb).1
    have hn8 : n ≤ 8 := by omega
    have HS := Lib.hid hS
    have HB := Lib.hid hb
    have hfl : (l.filter openJ).length ≤ 8 := Nat.le_trans (List.length_filter_le _ _) h8
    clear hr hS hb h8
    go_enter Try.func54, Try.ntmps54
    go_wp2_with fail
    refine c1.mono ?_
    rintro e w1 ⟨rfl, b1⟩
    clear c1
    go_wp2_with fail
    refine calls_named ?_
    rintro v hv
    have bv : Below w1.heap.size w1 v := by rw [hv]; exact (Below.refl _ _).alloc (Nat.le_refl _) _
    have R0 : Row v w1.heap.size 87 2 (some ⟨w1.heap.size, 0, none⟩) 0 0 [] := by rw [hv]; exact row0p (Blk.new w1 _ _) (Nat.le_refl _)
    clear hv
    have fv := bthen b1 bv
    refine (chosen_open_any A n cap l v (HS.out.below fv) hl (by omega)).mono ?_
    rintro e w2 ⟨g, c, rfl, R2, b2⟩
    have R1 := R0.below b2
    have f2 := bthen fv b2
    have hz := b1.size
    have hzv := fv.size
    have hlt1 : w1.heap.size < v.heap.size := R0.lt _ rfl
    obtain ⟨y, hy⟩ : ∃ y, l.filter openJ = y := ⟨_, rfl⟩
    rw [hy] at R2 hfl
    rw [hy]
    have HY := Lib.hid hy
    obtain ⟨m, hm⟩ : ∃ m, y.length = m := ⟨_, rfl⟩
    rw [hm] at R2 hfl
    rw [hm]
    have HM := Lib.hid hm
    have HR2 := Lib.hid R2
    have hgv := R2.ge _ rfl
    have hgne : g ≠ w1.heap.size := by have : v.heap.size ≤ g := hgv; omega
    clear hy hm b1 b2 R0 R2 bv fv
    go_wp2
    go_loopw [3, 13] (fun o iv wr => ∃ (k : Nat) (g0 : Nat) (c0 : Nat), k ≤ m ∧ iv = .int .i64 (k : Nat) ∧ o = .slice (some ⟨g0, 0, none⟩) k c0 ∧ Row wr w1.heap.size 87 2 (some ⟨g0, 0, none⟩) k c0 (DU ((y.take k).map duOf)) ∧ Row wr v.heap.size 68 5 (some ⟨g, 0, none⟩) m c (JB y) ∧ g0 ≠ g ∧ Below w.heap.size w wr) (fun _ iv _ => m - (intOf iv).toNat)
    case atStart => exact ⟨0, w1.heap.size, 0, Nat.zero_le _, rfl, rfl, R1, HR2.out, fun h => hgne h.symm, f2⟩
    case round =>
      clear R1 f2 HR2
      obtain ⟨k, g0, c0, hk, rfl, rfl, R, RJ, hgg, hbl⟩ := hrel
      by_cases hlt : k < m
      · have hlt' : (k : Int) < (m : Int) := by omega
        obtain ⟨b, off, hA, hbb, hcell⟩ := sl_jobs RJ.sl (by omega)
        injection hA with hA
        injection hA with hA1 hA2
        subst hA1 hA2
        obtain ⟨h0, h1, h2, h3, h4⟩ := hcell k hlt
        clear hcell
        simp only [Nat.zero_add] at h0 h1 h2 h3 h4
        have hts := Lib.hid (take_duOf_succ (l := y) (k := k) (by rw [HM.out]; exact hlt))
        generalize y.getD k default = pk at h0 h1 h2 h3 h4 hts
        obtain ⟨x0, x1, x2, x3, x4⟩ := pk
        simp only at h0 h1 h2 h3 h4
        have hzr := hbl.size
        have hzw : w1.heap.size ≤ wr.heap.size := Nat.le_of_lt (Nat.lt_of_lt_of_le hlt1 (Nat.le_trans hgv (Nat.le_of_lt hbb)))
        go_wp2_with (at_builtin; refine wpList_append_row2 rfl _ _ 74 rfl 87 (.agg #[.int .i64 0, .int .i64 0]) 2 16 Try.underlying74 info_Due (by first | kernel_rfl | simp [Value.cells]) (by decide) w1.heap.size (some ⟨g0, 0, none⟩) k c0 (DU ((y.take k).map duOf)) rfl ((R.alloc _).alloc _) ⟨wr.heap.size + 1, 0, none⟩ 1 1 [x0, x1] rfl rfl (cell_two_at' _ _ _ _ _ (by simp)) (by unfold maxLen; omega) (by omega) (by simp; omega) ?_; intro A5 c5 w5 R5 B5 W5 L5; obtain ⟨g5, cs5, rfl, _⟩ := R5.blk (Nat.succ_pos _))
        rw [hts.out] at R5
        have RJ5 := ((RJ.alloc (.cells #[.int .i64 x0, .int .i64 x1, .int .i64 x2, .int .i64 x3, .int .i64 x4] 68)).alloc (.cells #[.int .i64 x0, .int .i64 x1] 87)).wrote W5 (fun a b ha hb => by injection ha with ha; injection hb with hb; subst ha; subst hb; exact fun h => hgg h.symm)
        have hg5 : g5 ≠ g := by
          rcases L5 _ rfl with ⟨a0, e1, e2⟩ | e2
          · injection e1 with e1; subst e1; intro h; exact hgg (e2.trans h)
          · simp at e2; omega
        have hB : Below w.heap.size w w5 := btr ((hbl.alloc hzr _).alloc (by simp; omega) _) (B5.mono hz)
        exact ⟨⟨k + 1, g5, c5, by omega, by go_num, rfl, R5, RJ5, hg5, hB⟩, by simp [intOf]; omega⟩
      · have hkn : k = m := by omega
        subst hkn
        have hlt' : ¬ (k : Int) < (k : Int) := by omega
        have e1 : (y.take k).map duOf = opens l := by rw [List.take_of_length_le (Nat.le_of_eq HM.out), ← HY.out]; rfl
        rw [e1] at R
        have e2 : (opens l).length = k := by unfold opens; rw [List.length_map, HY.out]; exact HM.out
        have HE2 := Lib.hid e2
        clear e1 e2 RJ
        go_wp2_with fail
        refine (sortOpen_any w1.heap.size g0 k c0 (opens l) wr HE2.out (by omega) R).mono ?_
        rintro e w3 ⟨rfl, s, hp, hs, R3, W3⟩
        have f3 : Below w.heap.size w w3 := W3.below hbl hbl.size (fun x hx => by obtain rfl := Option.some.inj hx; exact Nat.le_trans hz (R.ge _ rfl))
        have hfs : s = openL l := openL_of HB.out hp hs
        have hsm : (openL l).length = k := by rw [← hfs, hp.length_eq]; exact HE2.out
        subst hfs
        have HSM := Lib.hid hsm
        have R4 := R3.mono hz
        clear hp hs R R3 W3 hsm
        go_wp2
        go_ret
        rw [HSM.out]
        exact RetRow.mk R4 f3
end Go.Proofs.Ytgpllffiahccjaa
namespace Go.Proofs.Ytgpllffiahccjaa
set_option linter.unusedSimpArgs false
set_option linter.unusedVariables false
attribute [local go_sem] n_lt2 n_lt3 n_lt4 n_le2 n_le3
open Go.RowKit
attribute [local go_sem] Ext.cell Ext.frozen
theorem sl_take {w : World} {s n : Nat} {A : Option Addr} {zs : List Int} (h : Sl w s A n zs) (k : Nat) (hk : k ≤ n) : Sl w s A k (zs.take (k * s)) := by
  have hl := h.len
  have hm : k * s ≤ n * s := Nat.mul_le_mul_right s hk
  refine ⟨by simp; omega, fun hk0 => ?_⟩
  obtain ⟨b, off, hA, hb, hc⟩ := h.2 (by omega)
  refine ⟨b, off, hA, hb, fun j hj => ?_⟩
  rw [hc j (by omega)]
  congr 2
  simp [List.getD, List.getElem?_take, hj]
theorem sl_drop {w : World} {s n b off : Nat} {zs : List Int} (h : Sl w s (some ⟨b, off, none⟩) n zs) (k : Nat) (hk : k ≤ n) : Sl w s (some ⟨b, off + k * s, none⟩) (n - k) (zs.drop (k * s)) := by
  have hl := h.len
  refine ⟨by rw [List.length_drop, hl, Nat.sub_mul], fun hk0 => ?_⟩
  obtain ⟨b', off', hA, hb, hc⟩ := h.2 (by omega)
  injection hA with hA
  injection hA with h1 h2
  subst h1 h2
  refine ⟨b, off + k * s, rfl, hb, fun j hj => ?_⟩
  have h5 : k * s + j < n * s := by
    rw [Nat.sub_mul] at hj
    omega
  have h3 := hc (k * s + j) h5
  rw [show off + k * s + j = off + (k * s + j) by omega, h3]
  congr 2
  simp [List.getD, List.getElem?_drop]
theorem DU_take (l : List Du) (k : Nat) : DU (l.take k) = (DU l).take (k * 2) := by
  induction l generalizing k with
  | nil => simp [DU]
  | cons a l ih =>
    cases k with
    | zero => simp [DU]
    | succ k =>
      have := ih k
      unfold DU at this ⊢
      simp only [List.take_succ_cons, List.flatMap_cons, this]
      rw [show (k + 1) * 2 = k * 2 + 1 + 1 by omega]
      rfl
theorem DU_drop (l : List Du) (k : Nat) : DU (l.drop k) = (DU l).drop (k * 2) := by
  induction l generalizing k with
  | nil => simp [DU]
  | cons a l ih =>
    cases k with
    | zero => simp [DU]
    | succ k =>
      have := ih k
      unfold DU at this ⊢
      simp only [List.drop_succ_cons, List.flatMap_cons, this]
      rw [show (k + 1) * 2 = k * 2 + 1 + 1 by omega]
      rfl
theorem DU_cons (x : Du) (l : List Du) : DU (x :: l) = [x.i, x.d] ++ DU l := rfl
theorem heldb_dr {W v : World} {b : Nat} (h : ∀ o, v.cell? ⟨b, o, none⟩ = W.cell? ⟨b, o, none⟩) : ∀ o, v.drew.cell? ⟨b, o, none⟩ = W.cell? ⟨b, o, none⟩ := h
theorem heldb_al {W v : World} {b : Nat} (h : ∀ o, v.cell? ⟨b, o, none⟩ = W.cell? ⟨b, o, none⟩) (hb : b < v.heap.size) (x : Obj) : ∀ o, (v.alloc x).cell? ⟨b, o, none⟩ = W.cell? ⟨b, o, none⟩ :=
  fun o => (((Below.refl v.heap.size v).alloc (Nat.le_refl _) x).cell (p := ⟨b, o, none⟩) hb).trans (h o)
theorem heldb_wr {W v v' : World} {b g : Nat} (hw : Wrote v v' (some ⟨g, 0, none⟩)) (h : ∀ o, v.cell? ⟨b, o, none⟩ = W.cell? ⟨b, o, none⟩) (hb : b < v.heap.size) (hne : b ≠ g) : ∀ o, v'.cell? ⟨b, o, none⟩ = W.cell? ⟨b, o, none⟩ :=
  fun o => (World.cell?_of_block (World.grownBy.block hw b hb (by simpa using hne))).trans (h o)
/-- append onto a row of the call's own, as one step of a region that draws. -/
theorem step_append_rowS {P : Program} {ops : Array Oper} {o : Oper} {a : Act} {w : World} {K : Act → World → Prop} {Q : Exit → Act → World → Prop} {E : Prop}
    (hg : o.guard = none) (s x : Operand) (t : TypeId) (hop : o.op = Op.call { callee := Callee.builtin Builtin.append, args := #[s, x], argTypes := #[t, t] })
    (e : TypeId) (z : Value) (size bytes : Nat) (h1 : P.underlying t = some (.slice e)) (hinfo : (P.info? e).map (fun i => (i.zero, i.size, i.bytes)) = some (some z, size, bytes)) (h6 : z.cells.size = size) (h7 : 0 < size)
    (lo g n cap : Nat) (xs : List Int) (hs : a.eval s = .slice (some ⟨g, 0, none⟩) n cap) (hR : Row w lo e size (some ⟨g, 0, none⟩) n cap xs)
    (ad : Addr) (m c : Nat) (news : List Int) (hx : a.eval x = .slice (some ad) m c) (hl : news.length = m * size) (hnews : ∀ j u, (ints news)[j]? = some u → w.cell? (ad.add j) = some u) (hm : 0 < m)
    (b0 : n + m ≤ maxLen) (b1 : (n + m) * bytes ≤ 140737488355328) (hlo : lo ≤ w.heap.size)
    (hK : ∀ g' c' w', Row w' lo e size (some ⟨g', 0, none⟩) (n + m) c' (xs ++ news) → Wrote w w' (some ⟨g, 0, none⟩) → (g' = g ∨ g' = w.heap.size) → K (a.put o.dst (.slice (some ⟨g', 0, none⟩) (n + m) c')) w') :
    if Region.wanted o (yielded ops a.tmps) = true then Oper.wp P o a w K Q else E := by
  obtain ⟨i, hi, hiz, his, hib⟩ : ∃ i, P.info? e = some i ∧ i.zero = some z ∧ i.size = size ∧ i.bytes = bytes := by
    cases hq : P.info? e with
    | none => rw [hq] at hinfo; simp at hinfo
    | some i =>
      rw [hq] at hinfo
      simp only [Option.map_some, Option.some.injEq, Prod.mk.injEq] at hinfo
      exact ⟨i, rfl, hinfo.1, hinfo.2.1, hinfo.2.2⟩
  refine step_append_lies _ hg s x t hop lo e i z size bytes h1 hi hiz his hib h6 h7 _ n (ints xs) hs hR ad m c (ints news) hx (by rw [ints_length]; exact hl) hnews (ints_oneCell' news) hm b0 b1 hlo w.heap.size rfl ?_
  intro g' c' w' hown hgr hat _
  rw [← ints_append] at hown
  exact hK g' c' w' hown hgr (by
    rcases hat with h | h
    · left; simpa [Value.ownBlock] using h.symm
    · right; exact h)
set_option maxRecDepth 100000 in
set_option maxHeartbeats 8000000 in
theorem specOpenJobs_any (A : Option Addr) (n cap : Nat) (l : List Jb) (w : World) (hS : Sl w 5 A n (JB l)) (hl : l.length = n) (hn : n ≤ maxLen) :
    Calls Try.prog 52 #[.slice A n cap] w (RetRow w 87 2 (openR l).length (DU (openR l))) := by
  have HS := Lib.hid (fun (v : World) (hB : Below w.heap.size w v) => hS.below hB)
  have c1 := fun (v : World) (hv : Sl v 5 A n (JB l)) => specJobsOk_any A n cap l v hv hl hn
  clear hS
  cases hb : jobsB l with
  | false =>
    have hr : openR l = [] := by unfold openR; rw [hb]; rfl
    rw [hr]
    rw [hb] at c1
    have C1 := Lib.hid c1
    clear c1
    go_enter Try.func52, Try.ntmps52
    go_wp2_with fail
    refine calls_named ?_
    rintro v hv
    have bv : Below w.heap.size w v := by rw [hv]; exact (Below.refl _ _).alloc (Nat.le_refl _) _
    have R0 : Row v w.heap.size 87 2 (some ⟨w.heap.size, 0, none⟩) 0 0 [] := by rw [hv]; exact row0p (Blk.new w _ _) (Nat.le_refl _)
    clear hv
    refine (C1.out v (HS.out v bv)).mono ?_
    rintro e w1 ⟨rfl, b1⟩
    go_wp2
    go_ret
    exact RetRow.mk (R0.below b1) (bthen bv b1)
  | true =>
    have hr : openR l = openL l := by unfold openR; rw [hb]; rfl
    rw [hr]
    rw [hb] at c1
    have C1 := Lib.hid c1
    have h8 := (jobsB_all hb).1
    have hn8 : n ≤ 8 := by omega
    have HB := Lib.hid (jobsB_all hb).2
    have hL := Lib.hid hl
    clear c1 hr hb h8 hl
    go_enter Try.func52, Try.ntmps52
    go_wp2_with fail
    refine calls_named ?_
    rintro v hv
    have bv : Below w.heap.size w v := by rw [hv]; exact (Below.refl _ _).alloc (Nat.le_refl _) _
    have R0 : Row v w.heap.size 87 2 (some ⟨w.heap.size, 0, none⟩) 0 0 [] := by rw [hv]; exact row0p (Blk.new w _ _) (Nat.le_refl _)
    clear hv
    refine (C1.out v (HS.out v bv)).mono ?_
    rintro e w1 ⟨rfl, b1⟩
    have R1 := R0.below b1
    have f1 := bthen bv b1
    clear R0 bv b1
    go_wp2
    go_loopw [3, 4] (fun o iv wr => ∃ (j g0 c0 : Nat) (y : List Du), j ≤ n ∧ iv = .int .i64 (j : Nat) ∧ o = .slice (some ⟨g0, 0, none⟩) y.length c0 ∧ Row wr w.heap.size 87 2 (some ⟨g0, 0, none⟩) y.length c0 (DU y) ∧ Hid (y = openTo l j) ∧ Below w.heap.size w wr) (fun _ iv _ => n - (intOf iv).toNat)
    case atStart => exact ⟨0, _, _, [], Nat.zero_le _, rfl, rfl, R1, Lib.hid rfl, f1⟩
    case round =>
      clear R1 f1
      obtain ⟨j, g0, c0, y, hj, rfl, rfl, R, hy, hbl⟩ := hrel
      have hy8 : y.length ≤ 8 := by have := openTo_len l j; rw [← hy.out] at this; omega
      by_cases hjn : j < n
      · have hjn' : (j : Int) < (n : Int) := by omega
        obtain ⟨b0, off, rfl, hb0, hcell⟩ := sl_jobs (HS.out w (Below.refl _ _)) (by omega)
        obtain ⟨h0, h1, _, _, h4⟩ := hcell j hjn
        clear hcell
        rw [← hbl.cell (by exact hb0)] at h0 h1 h4
        have hok := jobAtB_ok (HB.out j (by rw [hL.out]; exact hjn))
        have hbr : b0 < wr.heap.size := Nat.lt_of_lt_of_le hb0 hbl.size
        have hop0 : openTo l (j + 1) = if openJ (l.getD j default) = true then insDu (openTo l j) (duOf (l.getD j default)) else openTo l j := rfl
        have HOP := Lib.hid hop0
        clear hop0
        generalize l.getD j default = pj at h0 h1 h4 hok HOP
        obtain ⟨xi, xd, xk, xv, xf⟩ := pj
        simp only at h0 h1 h4
        have hf0 : 0 ≤ xf := by unfold jobOkB jobB at hok; simp only [Bool.and_eq_true, inB_iff] at hok; omega
        clear hok
        by_cases hxf : 0 < xf
        · have hy2 := Lib.hid (show y = openTo l (j + 1) by rw [HOP.out, if_neg (by unfold openJ; simp; omega)]; exact hy.out)
          clear hf0 hy
          go_wp2
          exact ⟨⟨j + 1, g0, c0, y, by omega, by go_num, rfl, R, hy2, hbl⟩, by simp [intOf]; omega⟩
        · have hxz : xf = 0 := by omega
          have hop := Lib.hid (show openTo l (j + 1) = insDu (openTo l j) ⟨xi, xd⟩ by rw [HOP.out, if_pos (by unfold openJ; simp [hxz])]; rfl)
          have HC0 := Lib.hid (And.intro ((hbl.cell (p := ⟨b0, off + j * 5, none⟩) hb0).symm.trans h0) ((hbl.cell (p := ⟨b0, off + j * 5 + 1, none⟩) hb0).symm.trans h1))
          subst hxz
          clear hf0 hxf
          go_wp2
          clear h4 h0 h1
          go_loopw [5] (fun kv wq => ∃ k : Nat, k ≤ y.length ∧ kv = .int .i64 (k : Nat) ∧ Hid (kIns y xd = kInsF y xd k) ∧ Row wq w.heap.size 87 2 (some ⟨g0, 0, none⟩) y.length c0 (DU y) ∧ Below w.heap.size w wq) (fun kv _ => (intOf kv).toNat)
          case atStart => exact ⟨y.length, Nat.le_refl _, rfl, Lib.hid rfl, R, hbl⟩
          case round =>
            clear R hbl hbr
            obtain ⟨k, hk, rfl, hki, R, hbl⟩ := hrel
            have hbr : b0 < wr.heap.size := Nat.lt_of_lt_of_le hb0 hbl.size
            have h0 : wr.cell? ⟨b0, off + j * 5, none⟩ = some (.int .i64 xi) := (hbl.cell (p := ⟨b0, off + j * 5, none⟩) hb0).trans HC0.out.1
            have h1 : wr.cell? ⟨b0, off + j * 5 + 1, none⟩ = some (.int .i64 xd) := (hbl.cell (p := ⟨b0, off + j * 5 + 1, none⟩) hb0).trans HC0.out.2
            rcases Nat.eq_zero_or_pos k with hk0 | hk0
            · subst hk0
              have hins := Lib.hid (show kIns y xd = 0 from hki.out)
              clear hki
              go_wp2
              ((refine wp_region_ext (by kernel_rfl) (by kernel_rfl) ?_); (repeat (any_goals (first | go_big_quiet_step (fail) | (refine wpQuiet_step (fun K hK => ?_); go_simp; split <;> (refine hK _ ?_; clear hK K)) | quiet_step (fail)))); (all_goals (refine wpQuiet_nil ?_; rintro _ ⟨z, rfl⟩; have hb' := z.h; generalize z.w = w1 at hb' ⊢; clear z; (first | (have hb2 := bstep hb' hb hb.size; clear hb' hcb hfb hz1 hz2 hz3 hz4 hb; have hb := hb2; clear hb2) | (have hb := hb'; clear hb')); obtain ⟨hcb, hfb, hz1, hz2, hz3, hz4⟩ := bcell hb; (try simp only [World.size_alloc, World.size_setCell, World.size_drew, Nat.lt_add_one_iff, Nat.add_assoc, Nat.reduceAdd] at hz1 hz2 hz3 hz4))))
              all_goals
                replace R := R.below hb
                replace hbl := bthen hbl hb
                replace h0 : w1.cell? ⟨b0, off + j * 5, none⟩ = some (.int .i64 xi) := (hb.cell (p := ⟨b0, off + j * 5, none⟩) hbr).trans h0
                replace h1 : w1.cell? ⟨b0, off + j * 5 + 1, none⟩ = some (.int .i64 xd) := (hb.cell (p := ⟨b0, off + j * 5 + 1, none⟩) hbr).trans h1
                replace hbr := Nat.lt_of_lt_of_le hbr hb.size
                clear hcb hfb hz1 hz2 hz3 hz4
                have hkl := hk
                have hci := R.cap_le
                have hkc : (0 : Int) ≤ (c0 : Int) := by omega
                have hkli : (0 : Int) ≤ (y.length : Int) := by omega
                have hk0i : (0 : Int) ≤ (0 : Int) := by omega
                have hz := hbl.size
                have hg0 := R.lt _ rfl
                have HRR := Lib.hid R
                have HBL := Lib.hid hbl
                have hSt := Lib.hid (sl_take R.sl 0 hk)
                clear R hbl
                go_wp2_with (at_builtin; refine wpList_append_copy rfl _ _ 74 rfl 87 (.agg #[.int .i64 0, .int .i64 0]) 2 16 Try.underlying74 info_Due (by first | kernel_rfl | simp [Value.cells]) (by decide) w1.heap.size rfl w1.heap.size (some ⟨g0, 0, none⟩) 0 c0 ((DU y).take (0 * 2)) rfl (by unfold maxLen; omega) (by omega) (Blk.new_at _ _ _ _ rfl) (Nat.le_refl _) (hSt.out.alloc _) ?_; intro gm cm wm Rm bm lm om)
                have bm2 : Below w1.heap.size w1 wm := btr ((Below.refl _ _).alloc (Nat.le_refl _) _) (bm.mono (by simp))
                have RY := (HRR.out.alloc (.cells #[] 87)).below bm
                have hgm : w1.heap.size ≤ gm := Rm.ge _ rfl
                have HHM := Lib.hid (btr HBL.out (bm2.mono hz))
                clear bm om
                have hm0 : wm.cell? ⟨b0, off + j * 5, none⟩ = some (.int .i64 xi) := (bm2.cell (p := ⟨b0, off + j * 5, none⟩) hbr).trans h0
                have hm1 : wm.cell? ⟨b0, off + j * 5 + 1, none⟩ = some (.int .i64 xd) := (bm2.cell (p := ⟨b0, off + j * 5 + 1, none⟩) hbr).trans h1
                have hbm : b0 < wm.heap.size := Nat.lt_of_lt_of_le hbr bm2.size
                have hbg : b0 ≠ gm := by omega
                clear h0 h1
                have hS0 : ∀ o, wm.cell? ⟨b0, o, none⟩ = wm.cell? ⟨b0, o, none⟩ := fun _ => rfl
                have HRm := Lib.hid Rm
                go_region_held_law (fun w' => ∀ o, w'.cell? ⟨b0, o, none⟩ = wm.cell? ⟨b0, o, none⟩) (repeat' (first | assumption | with_reducible exact hS0 | with_reducible refine heldb_dr ?_ | with_reducible refine heldb_al ?_ ?_ _ | with_reducible refine heldb_wr (by assumption) ?_ ?_ ?_ | (simp; done) | (simp; omega)))
                  (first | (refine step_append_rowS rfl _ _ 74 rfl 87 (.agg #[.int .i64 0, .int .i64 0]) 2 16 Try.underlying74 info_Due (by first | kernel_rfl | simp [Value.cells]) (by decide) w1.heap.size gm 0 cm ((DU y).take (0 * 2)) rfl ((HRm.out.drew).alloc _) ⟨wm.heap.size, 0, none⟩ 1 1 [xi, xd] rfl rfl (cell_two_at' _ _ _ _ _ rfl) (by decide) (by unfold maxLen; omega) (by omega) (by have := bm2.size; simp; omega) ?_; intro gn cn wn Rn Wn Ln))
                have bn : Below w1.heap.size w1 wn := Wn.below (btr bm2 (((Below.refl w1.heap.size wm).drew).alloc bm2.size (.cells #[.int .i64 xi, .int .i64 xd] 87))) (by have := bm2.size; simp; omega) (fun x hx => by obtain rfl := Option.some.inj hx; exact hgm)
                have RN := ((RY.drew).alloc (.cells #[.int .i64 xi, .int .i64 xd] 87)).wrote Wn (fun a b ha hb => by injection ha with ha; injection hb with hb; subst ha; subst hb; show g0 ≠ gm; omega)
                clear RY Rm HRm Wn hm0 hm1
                have hzn := bn.size
                have hnews0 := slices_of (sl_drop RN.sl 0 hk) rfl
                simp only [Nat.zero_add] at hnews0
                have hnews := Lib.hid hnews0
                clear hnews0
                have hnewl : ((DU y).drop (0 * 2)).length = (y.length - 0) * 2 := by rw [List.length_drop, DU_len]; omega
                have HF := Lib.hid (show (DU y).take (0 * 2) ++ [xi, xd] ++ (DU y).drop (0 * 2) = DU (insDu y ⟨xi, xd⟩) by
                  have e := hins.out
                  unfold insDu
                  show _ = DU (y.take (kIns y xd) ++ _ :: y.drop (kIns y xd))
                  rw [e, DU_append, DU_cons, DU_take, DU_drop, List.append_assoc]
                  (try rfl))
                have HJ := Lib.hid (show insDu y ⟨xi, xd⟩ = openTo l (j + 1) by rw [hop.out, ← hy.out])
                by_cases hck : c0 = 0
                · have HLK := Lib.hid (show y.length - 0 = 0 by omega)
                  go_wp2_with (at_builtin; refine wpList_append_row2 rfl _ _ 74 rfl 87 (.agg #[.int .i64 0, .int .i64 0]) 2 16 Try.underlying74 info_Due (by first | kernel_rfl | simp [Value.cells]) (by decide) w1.heap.size (some ⟨gn, 0, none⟩) (0 + 1) cn ((DU y).take (0 * 2) ++ [xi, xd]) rfl Rn ⟨g0, 0, none⟩ (y.length - 0) _ ((DU y).drop (0 * 2)) rfl hnewl (fun q u hq => by have hx : (DU y).drop (0 * 2) = [] := List.eq_nil_of_length_eq_zero (by rw [hnewl, HLK.out]); rw [hx] at hq; simp [ints] at hq) (by unfold maxLen; omega) (by omega) hzn ?_; intro A5 c5 w5 R5 B5 W5 L5; obtain ⟨g5, cs5, rfl, _⟩ := R5.blk (by omega))
                  rw [HF.out] at R5
                  have hln : 0 + 1 + (y.length - 0) = (insDu y ⟨xi, xd⟩).length := by rw [insDu_len]; omega
                  rw [hln] at R5
                  first
                    | rw [hln]
                    | rw [show 1 + y.length = (insDu y ⟨xi, xd⟩).length by rw [insDu_len]; omega]
                  exact ⟨⟨j + 1, g5, c5, _, by omega, by go_num, rfl, R5.mono hz, HJ, btr HBL.out ((btr bn B5).mono hz)⟩, by simp [intOf]; omega⟩
                · go_wp2_with (at_builtin; refine wpList_append_row2 rfl _ _ 74 rfl 87 (.agg #[.int .i64 0, .int .i64 0]) 2 16 Try.underlying74 info_Due (by first | kernel_rfl | simp [Value.cells]) (by decide) w1.heap.size (some ⟨gn, 0, none⟩) (0 + 1) cn ((DU y).take (0 * 2) ++ [xi, xd]) rfl Rn ⟨g0, 0 * 2, none⟩ (y.length - 0) _ ((DU y).drop (0 * 2)) rfl hnewl hnews.out (by unfold maxLen; omega) (by omega) hzn ?_; intro A5 c5 w5 R5 B5 W5 L5; obtain ⟨g5, cs5, rfl, _⟩ := R5.blk (by omega))
                  rw [HF.out] at R5
                  have hln : 0 + 1 + (y.length - 0) = (insDu y ⟨xi, xd⟩).length := by rw [insDu_len]; omega
                  rw [hln] at R5
                  first
                    | rw [hln]
                    | rw [show 1 + y.length = (insDu y ⟨xi, xd⟩).length by rw [insDu_len]; omega]
                  exact ⟨⟨j + 1, g5, c5, _, by omega, by go_num, rfl, R5.mono hz, HJ, btr HBL.out ((btr bn B5).mono hz)⟩, by simp [intOf]; omega⟩
            · obtain ⟨kp, hkp⟩ : ∃ kp : Nat, k = kp + 1 := ⟨k - 1, by omega⟩
              have HKP := Lib.hid hkp
              have hkpl : kp < y.length := by omega
              have hw : IntKind.i64.wrap ((k : Int) - 1) = (kp : Int) := by rw [IntKind.wrap_i64]; omega
              have hkp0 : (0 : Int) ≤ (kp : Int) := by omega
              have hkpi : (kp : Int) < (y.length : Int) := by omega
              have hk0' : (0 : Int) < (k : Int) := by omega
              obtain ⟨b9, off9, hA9, hb9, hc9⟩ := sl_dues R.sl (by omega)
              injection hA9 with hA9
              injection hA9 with hA91 hA92
              subst hA91 hA92
              have hd := (hc9 kp hkpl).2
              simp only [Nat.zero_add] at hd
              clear hc9
              have hunf : kInsF y xd (kp + 1) = if xd < (y.getD kp default).d then kInsF y xd kp else kp + 1 := rfl
              obtain ⟨yd, hyd⟩ : ∃ x, (y.getD kp default).d = x := ⟨_, rfl⟩
              rw [hyd] at hd hunf
              have HUN := Lib.hid hunf
              clear hkp hyd hunf
              by_cases hlt : xd < yd
              · have hki2 := Lib.hid (show kIns y xd = kInsF y xd kp by rw [hki.out, HKP.out, HUN.out, if_pos hlt])
                clear hki
                go_wp2
                ((refine wp_region_ext (by kernel_rfl) (by kernel_rfl) ?_); (repeat (any_goals (first | go_big_quiet_step (fail) | (refine wpQuiet_step (fun K hK => ?_); go_simp; split <;> (refine hK _ ?_; clear hK K)) | quiet_step (fail)))); (all_goals (refine wpQuiet_nil ?_; rintro _ ⟨z, rfl⟩; have hb' := z.h; generalize z.w = w1 at hb' ⊢; clear z; (first | (have hb2 := bstep hb' hb hb.size; clear hb' hcb hfb hz1 hz2 hz3 hz4 hb; have hb := hb2; clear hb2) | (have hb := hb'; clear hb')); obtain ⟨hcb, hfb, hz1, hz2, hz3, hz4⟩ := bcell hb; (try simp only [World.size_alloc, World.size_setCell, World.size_drew, Nat.lt_add_one_iff, Nat.add_assoc, Nat.reduceAdd] at hz1 hz2 hz3 hz4))))
                all_goals go_wp2
                all_goals exact ⟨⟨kp, by omega, by go_num, hki2, R.below hb, bthen hbl hb⟩, by have := HKP.out; simp [intOf]; omega⟩
              · have hins := Lib.hid (show kIns y xd = k by rw [hki.out, HKP.out, HUN.out, if_neg hlt])
                have hdf : decide (xd < yd) = false := decide_eq_false hlt
                clear hki
                go_wp2
                ((refine wp_region_ext (by kernel_rfl) (by kernel_rfl) ?_); (repeat (any_goals (first | go_big_quiet_step (fail) | (refine wpQuiet_step (fun K hK => ?_); go_simp; split <;> (refine hK _ ?_; clear hK K)) | quiet_step (fail)))); (all_goals (refine wpQuiet_nil ?_; rintro _ ⟨z, rfl⟩; have hb' := z.h; generalize z.w = w1 at hb' ⊢; clear z; (first | (have hb2 := bstep hb' hb hb.size; clear hb' hcb hfb hz1 hz2 hz3 hz4 hb; have hb := hb2; clear hb2) | (have hb := hb'; clear hb')); obtain ⟨hcb, hfb, hz1, hz2, hz3, hz4⟩ := bcell hb; (try simp only [World.size_alloc, World.size_setCell, World.size_drew, Nat.lt_add_one_iff, Nat.add_assoc, Nat.reduceAdd] at hz1 hz2 hz3 hz4))))
                all_goals
                  replace R := R.below hb
                  replace hbl := bthen hbl hb
                  replace h0 : w1.cell? ⟨b0, off + j * 5, none⟩ = some (.int .i64 xi) := (hb.cell (p := ⟨b0, off + j * 5, none⟩) hbr).trans h0
                  replace h1 : w1.cell? ⟨b0, off + j * 5 + 1, none⟩ = some (.int .i64 xd) := (hb.cell (p := ⟨b0, off + j * 5 + 1, none⟩) hbr).trans h1
                  replace hbr := Nat.lt_of_lt_of_le hbr hb.size
                  clear hcb hfb hz1 hz2 hz3 hz4 hd
                  have hkl := hk
                  have hci := R.cap_le
                  have hkc : (k : Int) ≤ (c0 : Int) := by omega
                  have hkli : (k : Int) ≤ (y.length : Int) := by omega
                  have hk0i : (0 : Int) ≤ (k : Int) := by omega
                  have hz := hbl.size
                  have hg0 := R.lt _ rfl
                  have HRR := Lib.hid R
                  have HBL := Lib.hid hbl
                  have hSt := Lib.hid (sl_take R.sl k hk)
                  clear R hbl
                  go_wp2_with (at_builtin; refine wpList_append_copy rfl _ _ 74 rfl 87 (.agg #[.int .i64 0, .int .i64 0]) 2 16 Try.underlying74 info_Due (by first | kernel_rfl | simp [Value.cells]) (by decide) w1.heap.size rfl w1.heap.size (some ⟨g0, 0, none⟩) k c0 ((DU y).take (k * 2)) rfl (by unfold maxLen; omega) (by omega) (Blk.new_at _ _ _ _ rfl) (Nat.le_refl _) (hSt.out.alloc _) ?_; intro gm cm wm Rm bm lm om)
                  have bm2 : Below w1.heap.size w1 wm := btr ((Below.refl _ _).alloc (Nat.le_refl _) _) (bm.mono (by simp))
                  have RY := (HRR.out.alloc (.cells #[] 87)).below bm
                  have hgm : w1.heap.size ≤ gm := Rm.ge _ rfl
                  have HHM := Lib.hid (btr HBL.out (bm2.mono hz))
                  clear bm om
                  have hm0 : wm.cell? ⟨b0, off + j * 5, none⟩ = some (.int .i64 xi) := (bm2.cell (p := ⟨b0, off + j * 5, none⟩) hbr).trans h0
                  have hm1 : wm.cell? ⟨b0, off + j * 5 + 1, none⟩ = some (.int .i64 xd) := (bm2.cell (p := ⟨b0, off + j * 5 + 1, none⟩) hbr).trans h1
                  have hbm : b0 < wm.heap.size := Nat.lt_of_lt_of_le hbr bm2.size
                  have hbg : b0 ≠ gm := by omega
                  clear h0 h1
                  have hS0 : ∀ o, wm.cell? ⟨b0, o, none⟩ = wm.cell? ⟨b0, o, none⟩ := fun _ => rfl
                  have HRm := Lib.hid Rm
                  go_region_held_law (fun w' => ∀ o, w'.cell? ⟨b0, o, none⟩ = wm.cell? ⟨b0, o, none⟩) (repeat' (first | assumption | with_reducible exact hS0 | with_reducible refine heldb_dr ?_ | with_reducible refine heldb_al ?_ ?_ _ | with_reducible refine heldb_wr (by assumption) ?_ ?_ ?_ | (simp; done) | (simp; omega)))
                    (first | (refine step_append_rowS rfl _ _ 74 rfl 87 (.agg #[.int .i64 0, .int .i64 0]) 2 16 Try.underlying74 info_Due (by first | kernel_rfl | simp [Value.cells]) (by decide) w1.heap.size gm k cm ((DU y).take (k * 2)) rfl ((HRm.out.drew).alloc _) ⟨wm.heap.size, 0, none⟩ 1 1 [xi, xd] rfl rfl (cell_two_at' _ _ _ _ _ rfl) (by decide) (by unfold maxLen; omega) (by omega) (by have := bm2.size; simp; omega) ?_; intro gn cn wn Rn Wn Ln))
                  have bn : Below w1.heap.size w1 wn := Wn.below (btr bm2 (((Below.refl w1.heap.size wm).drew).alloc bm2.size (.cells #[.int .i64 xi, .int .i64 xd] 87))) (by have := bm2.size; simp; omega) (fun x hx => by obtain rfl := Option.some.inj hx; exact hgm)
                  have RN := ((RY.drew).alloc (.cells #[.int .i64 xi, .int .i64 xd] 87)).wrote Wn (fun a b ha hb => by injection ha with ha; injection hb with hb; subst ha; subst hb; show g0 ≠ gm; omega)
                  clear RY Rm HRm Wn hm0 hm1
                  have hzn := bn.size
                  have hnews0 := slices_of (sl_drop RN.sl k hk) rfl
                  simp only [Nat.zero_add] at hnews0
                  have hnews := Lib.hid hnews0
                  clear hnews0
                  have hnewl : ((DU y).drop (k * 2)).length = (y.length - k) * 2 := by rw [List.length_drop, DU_len]; omega
                  have HF := Lib.hid (show (DU y).take (k * 2) ++ [xi, xd] ++ (DU y).drop (k * 2) = DU (insDu y ⟨xi, xd⟩) by
                    have e := hins.out
                    unfold insDu
                    show _ = DU (y.take (kIns y xd) ++ _ :: y.drop (kIns y xd))
                    rw [e, DU_append, DU_cons, DU_take, DU_drop, List.append_assoc]
                    (try rfl))
                  have HJ := Lib.hid (show insDu y ⟨xi, xd⟩ = openTo l (j + 1) by rw [hop.out, ← hy.out])
                  by_cases hck : c0 = k
                  · have HLK := Lib.hid (show y.length - k = 0 by omega)
                    go_wp2_with (at_builtin; refine wpList_append_row2 rfl _ _ 74 rfl 87 (.agg #[.int .i64 0, .int .i64 0]) 2 16 Try.underlying74 info_Due (by first | kernel_rfl | simp [Value.cells]) (by decide) w1.heap.size (some ⟨gn, 0, none⟩) (k + 1) cn ((DU y).take (k * 2) ++ [xi, xd]) rfl Rn ⟨g0, 0, none⟩ (y.length - k) _ ((DU y).drop (k * 2)) rfl hnewl (fun q u hq => by have hx : (DU y).drop (k * 2) = [] := List.eq_nil_of_length_eq_zero (by rw [hnewl, HLK.out]); rw [hx] at hq; simp [ints] at hq) (by unfold maxLen; omega) (by omega) hzn ?_; intro A5 c5 w5 R5 B5 W5 L5; obtain ⟨g5, cs5, rfl, _⟩ := R5.blk (by omega))
                    rw [HF.out] at R5
                    have hln : k + 1 + (y.length - k) = (insDu y ⟨xi, xd⟩).length := by rw [insDu_len]; omega
                    rw [hln] at R5
                    first
                      | rw [hln]
                      | rw [show 1 + y.length = (insDu y ⟨xi, xd⟩).length by rw [insDu_len]; omega]
                    exact ⟨⟨j + 1, g5, c5, _, by omega, by go_num, rfl, R5.mono hz, HJ, btr HBL.out ((btr bn B5).mono hz)⟩, by simp [intOf]; omega⟩
                  · go_wp2_with (at_builtin; refine wpList_append_row2 rfl _ _ 74 rfl 87 (.agg #[.int .i64 0, .int .i64 0]) 2 16 Try.underlying74 info_Due (by first | kernel_rfl | simp [Value.cells]) (by decide) w1.heap.size (some ⟨gn, 0, none⟩) (k + 1) cn ((DU y).take (k * 2) ++ [xi, xd]) rfl Rn ⟨g0, k * 2, none⟩ (y.length - k) _ ((DU y).drop (k * 2)) rfl hnewl hnews.out (by unfold maxLen; omega) (by omega) hzn ?_; intro A5 c5 w5 R5 B5 W5 L5; obtain ⟨g5, cs5, rfl, _⟩ := R5.blk (by omega))
                    rw [HF.out] at R5
                    have hln : k + 1 + (y.length - k) = (insDu y ⟨xi, xd⟩).length := by rw [insDu_len]; omega
                    rw [hln] at R5
                    first
                      | rw [hln]
                      | rw [show 1 + y.length = (insDu y ⟨xi, xd⟩).length by rw [insDu_len]; omega]
                    exact ⟨⟨j + 1, g5, c5, _, by omega, by go_num, rfl, R5.mono hz, HJ, btr HBL.out ((btr bn B5).mono hz)⟩, by simp [intOf]; omega⟩
      · have hjn2 : j = n := by omega
        subst hjn2
        have hjn' : ¬ (j : Int) < (j : Int) := by omega
        go_wp2
        go_ret
        have e1 : y = openL l := by rw [hy.out]; unfold openL; rw [hL.out]
        subst e1
        exact RetRow.mk R hbl
end Go.Proofs.Ytgpllffiahccjaa
namespace Go.Proofs.Ytgpllffiahccjaa
set_option linter.unusedSimpArgs false
set_option linter.unusedVariables false
attribute [local go_sem] n_lt2 n_lt3 n_lt4 n_le2 n_le3
open Go.RowKit
attribute [local go_sem] Ext.cell Ext.frozen
/-- What DueJobs hands back. -/
def dueR (l : List Jb) (time : Int) : List Int := dueTo (openR l) time (openR l).length
theorem dueR_len (l : List Jb) (time : Int) : (dueR l time).length ≤ 8 := Nat.le_trans (dueTo_len _ _ _) (openR_len l)
set_option maxRecDepth 100000 in
set_option maxHeartbeats 4000000 in
theorem dueJobs_any (A : Option Addr) (n cap : Nat) (l : List Jb) (time : Int) (w : World) (hS : Sl w 5 A n (JB l)) (hl : l.length = n) (hn : n ≤ maxLen) :
    Calls Try.prog 66 #[.slice A n cap, .int .i64 time] w (RetRow w 2 1 (dueR l time).length (dueR l time)) := by
  have c1 := jobsOk_any A n cap l w hS hl hn
  cases hb : jobsB l with
  | false =>
    have hr : dueR l time = [] := by unfold dueR openR; rw [hb]; rfl
    rw [hr]
    rw [hb] at c1
    go_enter Try.func66, Try.ntmps66
    go_wp2_with fail
    refine c1.mono ?_
    rintro e w1 ⟨rfl, b1⟩
    go_wp2
    go_ret
    exact RetRow.mk (Row.nil _ _ _ _) b1
  | true =>
    rw [hb] at c1
    have HS := Lib.hid (fun (v : World) (hB : Below w.heap.size w v) => hS.below hB)
    clear hS hb
    go_enter Try.func66, Try.ntmps66
    go_wp2_with fail
    refine c1.mono ?_
    rintro e w1 ⟨rfl, b1⟩
    clear c1
    go_wp2_with fail
    refine calls_named ?_
    rintro v hv
    have bv : Below w1.heap.size w1 v := by rw [hv]; exact (Below.refl _ _).alloc (Nat.le_refl _) _
    have R0 : Row v w1.heap.size 2 1 (some ⟨w1.heap.size, 0, none⟩) 0 0 [] := by rw [hv]; exact row0p (Blk.new w1 _ _) (Nat.le_refl _)
    clear hv
    have fv := bthen b1 bv
    refine (openJobs_any A n cap l v (HS.out v fv) hl hn).mono ?_
    rintro e w2 ⟨A2, c2, rfl, R2, b2⟩
    have R1 := R0.below b2
    have f2 := bthen fv b2
    obtain ⟨m, hm⟩ : ∃ x, (openR l).length = x := ⟨_, rfl⟩
    rw [hm] at R2 ⊢
    have hm8 : m ≤ 8 := by rw [← hm]; exact openR_len l
    have HM := Lib.hid hm
    obtain ⟨lo, hlo0⟩ : ∃ x, x = w1.heap.size := ⟨_, rfl⟩
    have hlo : w.heap.size ≤ lo := by rw [hlo0]; exact b1.size
    have hap : ∀ a b, (some (⟨w1.heap.size, 0, none⟩ : Addr)) = some a → A2 = some b → a.block ≠ b.block := apart_of R0.lt R2.ge
    have hvlo : lo ≤ v.heap.size := by rw [hlo0]; exact bv.size
    replace R2 := R2.mono hvlo
    replace R1 := R1.mono (Nat.le_of_eq hlo0)
    clear hm b1 b2 bv R0 fv HS
    go_wp2
    go_loopw [5, 15] (fun o iv wr => ∃ (k : Nat) (A0 : Option Addr) (n0 c0 : Nat) (zs : List Int), k ≤ m ∧ n0 ≤ k ∧ iv = .int .i64 (k : Nat) ∧ o = .slice A0 n0 c0 ∧ Row wr lo 2 1 A0 n0 c0 zs ∧ Hid (zs = dueTo (openR l) time k) ∧ Row wr lo 87 2 A2 m c2 (DU (openR l)) ∧ (∀ a b, A0 = some a → A2 = some b → a.block ≠ b.block) ∧ Below w.heap.size w wr) (fun _ iv _ => m - (intOf iv).toNat)
    case atStart => exact ⟨0, _, 0, _, [], Nat.zero_le _, Nat.le_refl _, rfl, rfl, R1, Lib.hid rfl, R2, hap, f2⟩
    case round =>
      clear R1 R2 hap f2
      obtain ⟨k, A0, n0, c0, zs, hk, hn0, rfl, rfl, R, hz, RD, hap, hbl⟩ := hrel
      have hzr := hbl.size
      by_cases hlt : k < m
      · have hlt' : (k : Int) < (m : Int) := by omega
        obtain ⟨b, off, rfl, hbb, hcell⟩ := sl_dues RD.sl (by omega)
        obtain ⟨h0, h1⟩ := hcell k hlt
        clear hcell
        have hge : lo ≤ b := RD.ge _ rfl
        have hts : dueTo (openR l) time (k + 1) = if ((openR l).getD k default).d ≤ time then dueTo (openR l) time k ++ [((openR l).getD k default).i] else dueTo (openR l) time k := rfl
        have HTS := Lib.hid hts
        clear hts
        generalize (openR l).getD k default = pk at h0 h1 HTS
        obtain ⟨xi, xd⟩ := pk
        simp only at h0 h1
        by_cases hd : xd ≤ time
        · have hz2 := Lib.hid (show zs ++ [xi] = dueTo (openR l) time (k + 1) by rw [HTS.out, if_pos hd, hz.out])
          clear hz HTS
          have HAP := Lib.hid hap
          clear hap
          go_wp2_with (at_builtin; refine wpList_append_row2 rfl _ _ 39 rfl 2 (.int .i64 0) 1 8 Try.underlying39 info_Int64 (by first | kernel_rfl | simp [Value.cells]) (by decide) lo A0 n0 c0 zs rfl ((R.alloc _).alloc _) ⟨wr.heap.size + 1, 0, none⟩ 1 1 [xi] rfl rfl (cell_one_at _ _ _ _ (by simp)) (by unfold maxLen; omega) (by omega) (by simp; omega) ?_; intro A5 c5 w5 R5 B5 W5 L5)
          have RD5 := ((RD.alloc (.cells #[.int .i64 xi, .int .i64 xd] 87)).alloc (.cells #[.int .i64 xi] 2)).wrote W5 (apart_symm HAP.out)
          have hap5 : ∀ a b', A5 = some a → some (⟨b, off, none⟩ : Addr) = some b' → a.block ≠ b'.block := fun a b' ha hb' => by
            injection hb' with hb'
            subst hb'
            rcases L5 a ha with ⟨a0, e1, e2⟩ | e2
            · rw [← e2]; exact HAP.out _ _ e1 rfl
            · simp at e2
              show a.block ≠ b
              omega
          have hB : Below w.heap.size w w5 := btr ((hbl.alloc hzr (.cells #[.int .i64 xi, .int .i64 xd] 87)).alloc (by first | exact hzr | (simp; omega)) _) (B5.mono hlo)
          exact ⟨⟨k + 1, A5, n0 + 1, c5, _, by omega, by omega, by go_num, rfl, R5, hz2, RD5, hap5, hB⟩, by simp [intOf]; omega⟩
        · have hz2 := Lib.hid (show zs = dueTo (openR l) time (k + 1) by rw [HTS.out, if_neg hd, hz.out])
          have hdf : decide (xd ≤ time) = false := decide_eq_false hd
          clear hz HTS
          have HAP := Lib.hid hap
          clear hap
          go_wp2
          exact ⟨⟨k + 1, A0, n0, c0, zs, by omega, by omega, by go_num, rfl, (R.alloc _), hz2, (RD.alloc _), HAP.out, (hbl.alloc hzr _)⟩, by simp [intOf]; omega⟩
      · have hkn : k = m := by omega
        subst hkn
        have hlt' : ¬ (k : Int) < (k : Int) := by omega
        clear hap RD
        go_wp2
        go_ret
        have e1 : zs = dueR l time := by rw [hz.out]; unfold dueR; rw [HM.out]
        have e2 : zs.length = n0 := by have := R.len; omega
        rw [← e1, e2]
        exact RetRow.mk (R.mono hlo) hbl
set_option maxRecDepth 100000 in
set_option maxHeartbeats 4000000 in
theorem specDueJobs_any (A : Option Addr) (n cap : Nat) (l : List Jb) (time : Int) (w : World) (hS : Sl w 5 A n (JB l)) (hl : l.length = n) (hn : n ≤ maxLen) :
    Calls Try.prog 65 #[.slice A n cap, .int .i64 time] w (RetRow w 2 1 (dueR l time).length (dueR l time)) := by
  have HS := Lib.hid (fun (v : World) (hB : Below w.heap.size w v) => hS.below hB)
  clear hS
  go_enter Try.func65, Try.ntmps65
  go_wp2_with fail
  refine calls_named ?_
  rintro v hv
  have fv : Below w.heap.size w v := by rw [hv]; exact (Below.refl _ _).alloc (Nat.le_refl _) _
  have R0 : Row v w.heap.size 2 1 (some ⟨w.heap.size, 0, none⟩) 0 0 [] := by rw [hv]; exact row0p (Blk.new w _ _) (Nat.le_refl _)
  clear hv
  refine (specOpenJobs_any A n cap l v (HS.out v fv) hl hn).mono ?_
  rintro e w2 ⟨A2, c2, rfl, R2, b2⟩
  have R1 := R0.below b2
  have f2 := bthen fv b2
  obtain ⟨m, hm⟩ : ∃ x, (openR l).length = x := ⟨_, rfl⟩
  rw [hm] at R2 ⊢
  have hm8 : m ≤ 8 := by rw [← hm]; exact openR_len l
  have HM := Lib.hid hm
  obtain ⟨lo, hlo0⟩ : ∃ x, x = w.heap.size := ⟨_, rfl⟩
  have hlo : w.heap.size ≤ lo := by rw [hlo0]; exact Nat.le_refl _
  have hap : ∀ a b, (some (⟨w.heap.size, 0, none⟩ : Addr)) = some a → A2 = some b → a.block ≠ b.block := apart_of R0.lt R2.ge
  have hvlo : lo ≤ v.heap.size := by rw [hlo0]; exact fv.size
  replace R2 := R2.mono hvlo
  replace R1 := R1.mono (Nat.le_of_eq hlo0)
  clear hm b2 R0 fv HS
  go_wp2
  go_loopw [5, 7] (fun o iv wr => ∃ (k : Nat) (A0 : Option Addr) (n0 c0 : Nat) (zs : List Int), k ≤ m ∧ n0 ≤ k ∧ iv = .int .i64 (k : Nat) ∧ o = .slice A0 n0 c0 ∧ Row wr lo 2 1 A0 n0 c0 zs ∧ Hid (zs = dueTo (openR l) time k) ∧ Row wr lo 87 2 A2 m c2 (DU (openR l)) ∧ (∀ a b, A0 = some a → A2 = some b → a.block ≠ b.block) ∧ Below w.heap.size w wr) (fun _ iv _ => m - (intOf iv).toNat)
  case atStart => exact ⟨0, _, 0, _, [], Nat.zero_le _, Nat.le_refl _, rfl, rfl, R1, Lib.hid rfl, R2, hap, f2⟩
  case round =>
    clear R1 R2 hap f2
    obtain ⟨k, A0, n0, c0, zs, hk, hn0, rfl, rfl, R, hz, RD, hap, hbl⟩ := hrel
    have hzr := hbl.size
    by_cases hlt : k < m
    · have hlt' : (k : Int) < (m : Int) := by omega
      obtain ⟨b, off, rfl, hbb, hcell⟩ := sl_dues RD.sl (by omega)
      obtain ⟨h0, h1⟩ := hcell k hlt
      clear hcell
      have hge : lo ≤ b := RD.ge _ rfl
      have hts : dueTo (openR l) time (k + 1) = if ((openR l).getD k default).d ≤ time then dueTo (openR l) time k ++ [((openR l).getD k default).i] else dueTo (openR l) time k := rfl
      have HTS := Lib.hid hts
      clear hts
      generalize (openR l).getD k default = pk at h0 h1 HTS
      obtain ⟨xi, xd⟩ := pk
      simp only at h0 h1
      by_cases hd : xd ≤ time
      · have hz2 := Lib.hid (show zs ++ [xi] = dueTo (openR l) time (k + 1) by rw [HTS.out, if_pos hd, hz.out])
        clear hz HTS
        have HAP := Lib.hid hap
        clear hap
        go_wp2_with (at_builtin; refine wpList_append_row2 rfl _ _ 39 rfl 2 (.int .i64 0) 1 8 Try.underlying39 info_Int64 (by first | kernel_rfl | simp [Value.cells]) (by decide) lo A0 n0 c0 zs rfl (R.alloc _) ⟨wr.heap.size, 0, none⟩ 1 1 [xi] rfl rfl (cell_one_at _ _ _ _ (by simp)) (by unfold maxLen; omega) (by omega) (by simp; omega) ?_; intro A5 c5 w5 R5 B5 W5 L5)
        have RD5 := (RD.alloc (.cells #[.int .i64 xi] 2)).wrote W5 (apart_symm HAP.out)
        have hap5 : ∀ a b', A5 = some a → some (⟨b, off, none⟩ : Addr) = some b' → a.block ≠ b'.block := fun a b' ha hb' => by
          injection hb' with hb'
          subst hb'
          rcases L5 a ha with ⟨a0, e1, e2⟩ | e2
          · rw [← e2]; exact HAP.out _ _ e1 rfl
          · simp at e2
            show a.block ≠ b
            omega
        have hB : Below w.heap.size w w5 := btr (hbl.alloc (by first | exact hzr | (simp; omega)) _) (B5.mono hlo)
        exact ⟨⟨k + 1, A5, n0 + 1, c5, _, by omega, by omega, by go_num, rfl, R5, hz2, RD5, hap5, hB⟩, by simp [intOf]; omega⟩
      · have hz2 := Lib.hid (show zs = dueTo (openR l) time (k + 1) by rw [HTS.out, if_neg hd, hz.out])
        have hdf : decide (xd ≤ time) = false := decide_eq_false hd
        clear hz HTS
        have HAP := Lib.hid hap
        clear hap
        go_wp2
        exact ⟨⟨k + 1, A0, n0, c0, zs, by omega, by omega, by go_num, rfl, R, hz2, RD, HAP.out, hbl⟩, by simp [intOf]; omega⟩
    · have hkn : k = m := by omega
      subst hkn
      have hlt' : ¬ (k : Int) < (k : Int) := by omega
      clear hap RD
      go_wp2
      go_ret
      have e1 : zs = dueR l time := by rw [hz.out]; unfold dueR; rw [HM.out]
      have e2 : zs.length = n0 := by have := R.len; omega
      rw [← e1, e2]
      exact RetRow.mk (R.mono hlo) hbl
end Go.Proofs.Ytgpllffiahccjaa
namespace Go.Proofs.Ytgpllffiahccjaa
set_option linter.unusedSimpArgs false
set_option linter.unusedVariables false
attribute [local go_sem] n_lt2 n_lt3 n_lt4 n_le2 n_le3
open Go.RowKit
theorem dueTo_filter (s : List Du) (t : Int) : ∀ k, k ≤ s.length → dueTo s t k = ((s.take k).filter (fun x => decide (x.d ≤ t))).map (·.i)
  | 0, _ => rfl
  | k + 1, h => by
    have ih := dueTo_filter s t k (by omega)
    have htk : s.take (k + 1) = s.take k ++ [s.getD k default] := by
      rw [List.take_succ_eq_append_getElem (by omega)]
      simp [List.getD, show k < s.length by omega]
    show (if (s.getD k default).d ≤ t then dueTo s t k ++ [(s.getD k default).i] else dueTo s t k) = _
    rw [htk, List.filter_append, List.map_append, ih]
    generalize s.getD k default = x
    by_cases hd : x.d ≤ t
    · rw [if_pos hd]; simp [List.filter_cons, hd]
    · rw [if_neg hd]; simp [List.filter_cons, hd]
theorem filter_sorted (t : Int) : ∀ s : List Du, s.Pairwise (fun a b => a.d ≤ b.d) → s.filter (fun x => decide (x.d ≤ t)) = s.take (s.filter (fun x => decide (x.d ≤ t))).length
  | [], _ => rfl
  | a :: s, h => by
    rw [List.pairwise_cons] at h
    have ih := filter_sorted t s h.2
    by_cases ha : a.d ≤ t
    · rw [List.filter_cons, if_pos (by simpa using ha), List.length_cons, List.take_succ_cons, ← ih]
    · have : s.filter (fun x => decide (x.d ≤ t)) = [] := by
        rw [List.filter_eq_nil_iff]
        intro b hb
        have := h.1 b hb
        simp
        omega
      rw [List.filter_cons, if_neg (by simpa using ha), this]
      rfl
/-- How many of a list are due. -/
def cntD (s : List Du) (t : Int) : Nat := (s.filter (fun x => decide (x.d ≤ t))).length
theorem cntD_le (s : List Du) (t : Int) : cntD s t ≤ s.length := List.length_filter_le _ _
theorem cntD_mono (s : List Du) {t u : Int} (h : t ≤ u) : cntD s t ≤ cntD s u := by
  unfold cntD
  induction s with
  | nil => exact Nat.le_refl _
  | cons a s ih =>
    rw [List.filter_cons, List.filter_cons]
    by_cases h1 : a.d ≤ t
    · rw [if_pos (by simpa using h1), if_pos (by simp; omega)]
      simp only [List.length_cons]
      omega
    · rw [if_neg (by simpa using h1)]
      split
      · simp only [List.length_cons]; omega
      · exact ih
theorem dueTo_all {s : List Du} (h : s.Pairwise (fun a b => a.d ≤ b.d)) (t : Int) : dueTo s t s.length = (s.take (cntD s t)).map (·.i) := by
  rw [dueTo_filter s t s.length (Nat.le_refl _), List.take_length]
  rw [filter_sorted t s h]
  unfold cntD
  rw [← filter_sorted t s h]
theorem cntD_in {s : List Du} (h : s.Pairwise (fun a b => a.d ≤ b.d)) {t : Int} {i : Nat} (hi : i < cntD s t) : (s.getD i default).d ≤ t := by
  have he := filter_sorted t s h
  have hl := cntD_le s t
  have hm : s.getD i default ∈ s.filter (fun x => decide (x.d ≤ t)) := by
    rw [he]
    have e1 : (s.take (cntD s t))[i]'(by rw [List.length_take]; omega) = s.getD i default := by
      simp [List.getD, show i < s.length by omega]
    rw [← e1]
    exact List.getElem_mem _
  have := (List.mem_filter.1 hm).2
  simpa using this
theorem cntD_out {s : List Du} (h : s.Pairwise (fun a b => a.d ≤ b.d)) {t : Int} (hlt : cntD s t < s.length) : t < (s.getD (cntD s t) default).d := by
  rcases (by omega : t < (s.getD (cntD s t) default).d ∨ (s.getD (cntD s t) default).d ≤ t) with h1 | h1
  · exact h1
  · exfalso
    have hall : ∀ x ∈ s.take (cntD s t + 1), x.d ≤ t := by
      intro x hx
      obtain ⟨i, hi, rfl⟩ := List.getElem_of_mem hx
      rw [List.length_take] at hi
      rw [List.getElem_take]
      have hp := List.pairwise_iff_getElem.1 h
      rcases Nat.lt_or_ge i (cntD s t) with h2 | h2
      · have := cntD_in h h2
        simpa [List.getD, show i < s.length by omega] using this
      · have hic : i = cntD s t := by omega
        subst hic
        simpa [List.getD, hlt] using h1
    have hc : cntD s t + 1 ≤ cntD s t := by
      have e1 : (s.take (cntD s t + 1)).filter (fun x => decide (x.d ≤ t)) = s.take (cntD s t + 1) := List.filter_eq_self.2 (fun x hx => by simpa using hall x hx)
      have e2 := congrArg List.length (congrArg (List.filter (fun x => decide (x.d ≤ t))) (List.take_append_drop (cntD s t + 1) s))
      rw [List.filter_append, e1, List.length_append, List.length_take] at e2
      have e3 : (s.filter (fun x => decide (x.d ≤ t))).length = cntD s t := rfl
      omega
    omega
theorem sorted_d {s : List Du} (h : s.Pairwise duLt) : s.Pairwise (fun a b => a.d ≤ b.d) := h.imp duLt_le
theorem parts_len {l : List Jb} : (openL l).length + (firL l).length = l.length := by
  have h1 := (openL_perm l).length_eq
  have h2 := (firedS_perm l).length_eq
  unfold firL
  rw [List.length_map, h1, h2]
  unfold opens fireds
  rw [List.length_map]
  clear h1 h2
  induction l with
  | nil => rfl
  | cons a l ih =>
    rw [List.filter_cons, List.filter_cons]
    unfold firedJ at ih ⊢
    cases openJ a <;> simp at ih ⊢ <;> omega
end Go.Proofs.Ytgpllffiahccjaa

/- The law's own helpers on slices of Int64: sz, to, eq, mark, held. -/
import Derived.Test.YtbcpcddmekoaeaaA1
import Derived.Test.YtbcpcddmekoaeaaMem
namespace Go.Proofs.Ytbcpcddmekoaeaa
set_option linter.unusedSimpArgs false
set_option linter.unusedVariables false
attribute [local go_sem] n_lt2 n_lt3 n_lt4 n_le2 n_le3
open Go.RowKit
attribute [local go_sem] Ext.cell Ext.frozen


theorem info_Int64 : (Try.prog.info? 2).map (fun i => (i.zero, i.size, i.bytes)) = some (some (.int .i64 0), 1, 8) := by kernel_rfl


set_option maxHeartbeats 1600000 in
theorem eqInt64S_any (A B : Option Addr) (n m cap cap' : Nat) (zs ys : List Int) (w : World) (hS : Sl w 1 A n zs) (hT : Sl w 1 B m ys) (hn : n ≤ maxLen) (hm : m ≤ maxLen) :
    Calls Try.prog 116 #[.slice A n cap, .slice B m cap'] w fun e w' => e = .returned (.bool (eqL zs ys)) ∧ Below w.heap.size w w' := by
  unfold maxLen at hn hm
  by_cases hnm : n = m
  · subst hnm
    have HS := Lib.hid hS
    have HT := Lib.hid hT
    clear hS hT
    go_enter Try.func116, Try.ntmps116
    go_wp2
    go_loopw [5] (fun i wr => ∃ (k : Nat), k ≤ n ∧ i = .int .i64 k ∧ Below w.heap.size w wr ∧ Hid (∀ j, j < k → zs.getD j 0 = ys.getD j 0)) (fun i _ => n - (intOf i).toNat)
    case atStart => exact ⟨0, Nat.zero_le _, rfl, Below.refl _ _, fun j hj => absurd hj (by omega)⟩
    case round =>
      obtain ⟨k, hk, rfl, hbl, hall⟩ := hrel
      by_cases hlt : k < n
      · obtain ⟨b, off, rfl, hb, hcell⟩ := HS.out.at_ (by omega)
        obtain ⟨b', off', rfl, hb', hcell'⟩ := HT.out.at_ (by omega)
        have h0 := hcell (k) (by omega)
        have p0 := hcell' (k) (by omega)
        rw [← hbl.cell (by exact hb)] at h0
        rw [← hbl.cell (by exact hb')] at p0
        clear hcell hcell'
        generalize hx0 : zs.getD (k) 0 = x0 at h0
        generalize hy0 : ys.getD (k) 0 = y0 at p0
        have HX := Lib.hid (And.intro (hx0) (hy0))
        clear hx0 hy0
        have hbr : b < wr.heap.size := Nat.lt_of_lt_of_le hb hbl.size
        have hbr' : b' < wr.heap.size := Nat.lt_of_lt_of_le hb' hbl.size
        by_cases hq : x0 = y0
        · subst hq
          go_wp2
          ((refine wp_region_ext (by kernel_rfl) (by kernel_rfl) ?_); (repeat (any_goals (first | go_big_quiet_step (fail) | (refine wpQuiet_step (fun K hK => ?_); go_simp; split <;> (refine hK _ ?_; clear hK K)) | quiet_step (fail)))); (all_goals (refine wpQuiet_nil ?_; rintro _ ⟨z, rfl⟩; have hb' := z.h; generalize z.w = w1 at hb' ⊢; clear z; (first | (have hb2 := bstep hb' hb hb.size; clear hb' hcb hfb hz1 hz2 hz3 hz4 hb; have hb := hb2; clear hb2) | (have hb := hb'; clear hb')); obtain ⟨hcb, hfb, hz1, hz2, hz3, hz4⟩ := bcell hb; (try simp only [World.size_alloc, World.size_setCell, World.size_drew, Nat.lt_add_one_iff, Nat.add_assoc, Nat.reduceAdd] at hz1 hz2 hz3 hz4))))
          go_wp2
          refine ⟨⟨k + 1, by omega, by go_num, bstep hb hbl hbl.size, ?_⟩, by simp [intOf]; omega⟩
          intro j hj
          have hxy := HX.out
          have he : x0 = x0 := rfl
          rcases (by omega : j < k ∨ j = k) with h | h
          · exact hall.out j h
          · rw [h, hxy.1, hxy.2]
        · have hq' : (x0 == y0) = false := by simpa using hq
          go_wp2
          ((refine wp_region_ext (by kernel_rfl) (by kernel_rfl) ?_); (repeat (any_goals (first | go_big_quiet_step (fail) | (refine wpQuiet_step (fun K hK => ?_); go_simp; split <;> (refine hK _ ?_; clear hK K)) | quiet_step (fail)))); (all_goals (refine wpQuiet_nil ?_; rintro _ ⟨z, rfl⟩; have hb' := z.h; generalize z.w = w1 at hb' ⊢; clear z; (first | (have hb2 := bstep hb' hb hb.size; clear hb' hcb hfb hz1 hz2 hz3 hz4 hb; have hb := hb2; clear hb2) | (have hb := hb'; clear hb')); obtain ⟨hcb, hfb, hz1, hz2, hz3, hz4⟩ := bcell hb; (try simp only [World.size_alloc, World.size_setCell, World.size_drew, Nat.lt_add_one_iff, Nat.add_assoc, Nat.reduceAdd] at hz1 hz2 hz3 hz4))))
          go_wp2
          go_ret
          refine ⟨ret_bool (eqL_ne ?_).symm, bstep hb hbl hbl.size⟩
          rintro rfl
          have hxy := HX.out
          exact hq (hxy.1.symm.trans hxy.2)
      · have hkn : k = n := by omega
        subst hkn
        go_wp2
        go_ret
        have hzy : zs = ys := list_ext_getD (by rw [HS.out.len, HT.out.len]) (fun j hj => hall.out j (by rw [HS.out.len] at hj; omega))
        exact ⟨ret_bool (by rw [hzy]; exact (eqL_self _).symm), hbl⟩
  · have hne : ¬ (n : Int) = (m : Int) := by omega
    have hz : eqL zs ys = false := by
      refine eqL_ne ?_
      rintro rfl
      have h1 := hS.len
      have h2 := hT.len
      omega
    rw [hz]
    clear hz hS hT
    go_enter Try.func116, Try.ntmps116
    go_wp2
    go_ret
    exact ⟨rfl, Below.refl _ _⟩

set_option maxHeartbeats 1600000 in
theorem markInt64S_any (lo : Nat) (A : Option Addr) (n cap : Nat) (zs : List Int) (k0 : Int) (w : World) (hR : Row w lo 2 1 A n cap zs) (hn : n ≤ 1048576) (hk0 : 0 ≤ k0) (hk1 : k0 ≤ 1073741824) :
    Calls Try.prog 85 #[.slice A n cap, .int .i64 k0] w (RetMark w lo 2 1 A n cap k0) := by
  by_cases hz : n = 0
  · subst hz
    have hR' : Row w lo 2 1 A 0 cap (marks k0 (0 * 1)) := by
      have hl := hR.len
      have : zs = [] := List.eq_nil_of_length_eq_zero (by omega)
      subst this
      exact hR
    have HR := Lib.hid hR'
    clear hR hR'
    go_enter Try.func85, Try.ntmps85
    go_wp2
    go_loop [1, 5] (fun q i => i = .int .i64 0 ∧ q = .int .i64 k0) (fun _ _ => 0)
    case atStart => exact ⟨rfl, rfl⟩
    case round =>
      obtain ⟨rfl, rfl⟩ := hrel
      go_wp2
      go_ret
      exact RetMark.mk (by simp) HR.out (World.grownBy.refl _ _)
  · obtain ⟨g, cs, rfl, hlo, hblk, hnc, hcm, hcs, _⟩ := hR.blk (by omega)
    have HC := Lib.hid (And.intro hcs (And.intro hnc hcm))
    clear hR hcs hcm hz
    have hnc' : (n : Int) ≤ (cap : Int) := by omega
    go_enter Try.func85, Try.ntmps85
    go_wp2
    go_loopw [1, 5] (fun q i wr => ∃ (k : Nat) (cs : Array Value), k ≤ n ∧ i = .int .i64 k ∧ q = .int .i64 (k0 + (k : Nat)) ∧ Hid (Wrote w wr (some ⟨g, 0, none⟩)) ∧ Blk wr g 2 cs ∧ Hid (cs.size = cap * 1) ∧ Hid (∀ j, j < k → cs[j]? = some (.int .i64 (k0 + (j : Int))))) (fun _ i _ => n - (intOf i).toNat)
    case atStart => exact ⟨0, cs, Nat.zero_le _, rfl, by simp, World.grownBy.refl _ _, hblk, HC.out.1, fun j hj => absurd hj (by omega)⟩
    case round =>
      obtain ⟨k, cs', hk, rfl, rfl, hwr, hblk', hcs', hall⟩ := hrel
      by_cases hlt : k < n
      · have _hg := hlt
        obtain ⟨c0, g0⟩ := hblk'.has (i := k) (by have := hcs'.out; have := HC.out.2.1; omega)
        have f0 := hblk'.frozen (k)
        go_wp2
        refine ⟨⟨k + 1, _, by omega, by go_num, congrArg (Value.int .i64) (by omega), ?_, (hblk'.set_ _ _), ?_, ?_⟩, by simp [intOf]; omega⟩
        · exact (wrote_set (p := ⟨g, k, none⟩) hwr.out rfl _)
        · show Array.size _ = _
          simp only [Array.size_setIfInBounds]
          exact hcs'.out
        · intro j hj
          have hcsz := hcs'.out
          have hnc := HC.out.2.1
          simp only [Array.getElem?_setIfInBounds, Array.size_setIfInBounds]
          rcases (by omega : j < k ∨ j = k) with h | h
          · rw [if_neg (by omega)]
            exact hall.out j h
          · rw [if_pos (by omega), if_pos (by omega), h]
            try exact congrArg (fun z => some (Value.int .i64 z)) (by omega)
      · have hkn : k = n := by omega
        subst hkn
        go_wp2
        go_ret
        refine RetMark.mk (by omega) (Row.of_blk hblk' hlo HC.out.2.1 HC.out.2.2 hcs'.out (marks_length _ _) (fun j hj => ?_)) hwr.out
        rw [marks_getD _ _ _ hj]
        exact hall.out j (by omega)

set_option maxHeartbeats 1600000 in
theorem heldInt64S_any (A : Option Addr) (n cap : Nat) (k0 : Int) (w : World) (hS : Sl w 1 A n (marks k0 (n * 1))) (hn : n ≤ 1048576) (hk0 : 0 ≤ k0) (hk1 : k0 ≤ 1073741824) :
    Calls Try.prog 86 #[.slice A n cap, .int .i64 k0] w fun e w' => e = .returned (.int .i64 (k0 + (n * 1 : Nat))) ∧ w = w' := by
  have HS := Lib.hid hS
  clear hS
  go_enter Try.func86, Try.ntmps86
  go_wp2
  go_loop [1, 5] (fun q i => ∃ (k : Nat), k ≤ n ∧ i = .int .i64 k ∧ q = .int .i64 (k0 + (k : Nat))) (fun _ i => n - (intOf i).toNat)
  case atStart => exact ⟨0, Nat.zero_le _, rfl, by simp⟩
  case round =>
    obtain ⟨k, hk, rfl, rfl⟩ := hrel
    by_cases hlt : k < n
    · obtain ⟨b, off, rfl, hb, hcell⟩ := HS.out.at_ (by omega)
      have h0 := hcell (k) (by omega)
      rw [marks_getD _ _ _ (by omega)] at h0
      clear hcell
      go_wp2
      exact ⟨⟨k + 1, by omega, by go_num, congrArg (Value.int .i64) (by omega)⟩, by simp [intOf]; omega⟩
    · have hkn : k = n := by omega
      subst hkn
      go_wp2
      go_ret
      exact ⟨ret_int (by omega), rfl⟩
end Go.Proofs.Ytbcpcddmekoaeaa

/- likeInts: two rows hold the same numbers. -/
import Derived.Test.YtgpllffiahccjaaSInt64
namespace Go.Proofs.Ytgpllffiahccjaa
set_option linter.unusedSimpArgs false
set_option linter.unusedVariables false
attribute [local go_sem] n_lt2 n_lt3 n_lt4 n_le2 n_le3
open Go.RowKit
attribute [local go_sem] Ext.cell Ext.frozen
set_option maxHeartbeats 1600000 in
theorem likeInts_any (A B : Option Addr) (n m cap cap' : Nat) (zs ys : List Int) (w : World) (hS : Sl w 1 A n zs) (hT : Sl w 1 B m ys) (hn : n ≤ maxLen) (hm : m ≤ maxLen) :
    Calls Try.prog 32 #[.slice A n cap, .slice B m cap'] w fun e w' => e = .returned (.bool (eqL zs ys)) ∧ Below w.heap.size w w' := by
  unfold maxLen at hn hm
  by_cases hnm : n = m
  · subst hnm
    have HS := Lib.hid hS
    have HT := Lib.hid hT
    clear hS hT
    go_enter Try.func32, Try.ntmps32
    go_wp2
    go_loopw [5] (fun i wr => ∃ (k : Nat), k ≤ n ∧ i = .int .i64 k ∧ Below w.heap.size w wr ∧ Hid (∀ j, j < k → zs.getD j 0 = ys.getD j 0)) (fun i _ => n - (intOf i).toNat)
    case atStart => exact ⟨0, Nat.zero_le _, rfl, Below.refl _ _, fun j hj => absurd hj (by omega)⟩
    case round =>
      obtain ⟨k, hk, rfl, hbl, hall⟩ := hrel
      by_cases hlt : k < n
      · obtain ⟨b, off, rfl, hb, hcell⟩ := HS.out.at_ (by omega)
        obtain ⟨b', off', rfl, hb', hcell'⟩ := HT.out.at_ (by omega)
        have h0 := hcell (k) (by omega)
        have p0 := hcell' (k) (by omega)
        rw [← hbl.cell (by exact hb)] at h0
        rw [← hbl.cell (by exact hb')] at p0
        clear hcell hcell'
        generalize hx0 : zs.getD (k) 0 = x0 at h0
        generalize hy0 : ys.getD (k) 0 = y0 at p0
        have HX := Lib.hid (And.intro (hx0) (hy0))
        clear hx0 hy0
        have hbr : b < wr.heap.size := Nat.lt_of_lt_of_le hb hbl.size
        have hbr' : b' < wr.heap.size := Nat.lt_of_lt_of_le hb' hbl.size
        by_cases hq : x0 = y0
        · subst hq
          go_wp2
          ((refine wp_region_ext (by kernel_rfl) (by kernel_rfl) ?_); (repeat (any_goals (first | go_big_quiet_step (fail) | (refine wpQuiet_step (fun K hK => ?_); go_simp; split <;> (refine hK _ ?_; clear hK K)) | quiet_step (fail)))); (all_goals (refine wpQuiet_nil ?_; rintro _ ⟨z, rfl⟩; have hb' := z.h; generalize z.w = w1 at hb' ⊢; clear z; (first | (have hb2 := bstep hb' hb hb.size; clear hb' hcb hfb hz1 hz2 hz3 hz4 hb; have hb := hb2; clear hb2) | (have hb := hb'; clear hb')); obtain ⟨hcb, hfb, hz1, hz2, hz3, hz4⟩ := bcell hb; (try simp only [World.size_alloc, World.size_setCell, World.size_drew, Nat.lt_add_one_iff, Nat.add_assoc, Nat.reduceAdd] at hz1 hz2 hz3 hz4))))
          go_wp2
          refine ⟨⟨k + 1, by omega, by go_num, bstep hb hbl hbl.size, ?_⟩, by simp [intOf]; omega⟩
          intro j hj
          have hxy := HX.out
          have he : x0 = x0 := rfl
          rcases (by omega : j < k ∨ j = k) with h | h
          · exact hall.out j h
          · rw [h, hxy.1, hxy.2]
        · have hq' : (x0 == y0) = false := by simpa using hq
          go_wp2
          ((refine wp_region_ext (by kernel_rfl) (by kernel_rfl) ?_); (repeat (any_goals (first | go_big_quiet_step (fail) | (refine wpQuiet_step (fun K hK => ?_); go_simp; split <;> (refine hK _ ?_; clear hK K)) | quiet_step (fail)))); (all_goals (refine wpQuiet_nil ?_; rintro _ ⟨z, rfl⟩; have hb' := z.h; generalize z.w = w1 at hb' ⊢; clear z; (first | (have hb2 := bstep hb' hb hb.size; clear hb' hcb hfb hz1 hz2 hz3 hz4 hb; have hb := hb2; clear hb2) | (have hb := hb'; clear hb')); obtain ⟨hcb, hfb, hz1, hz2, hz3, hz4⟩ := bcell hb; (try simp only [World.size_alloc, World.size_setCell, World.size_drew, Nat.lt_add_one_iff, Nat.add_assoc, Nat.reduceAdd] at hz1 hz2 hz3 hz4))))
          go_wp2
          go_ret
          refine ⟨ret_bool (eqL_ne ?_).symm, bstep hb hbl hbl.size⟩
          rintro rfl
          have hxy := HX.out
          exact hq (hxy.1.symm.trans hxy.2)
      · have hkn : k = n := by omega
        subst hkn
        go_wp2
        go_ret
        have hzy : zs = ys := list_ext_getD (by rw [HS.out.len, HT.out.len]) (fun j hj => hall.out j (by rw [HS.out.len] at hj; omega))
        exact ⟨ret_bool (by rw [hzy]; exact (eqL_self _).symm), hbl⟩
  · have hne : ¬ (n : Int) = (m : Int) := by omega
    have hz : eqL zs ys = false := by
      refine eqL_ne ?_
      rintro rfl
      have h1 := hS.len
      have h2 := hT.len
      omega
    rw [hz]
    clear hz hS hT
    go_enter Try.func32, Try.ntmps32
    go_wp2
    go_ret
    exact ⟨rfl, Below.refl _ _⟩
end Go.Proofs.Ytgpllffiahccjaa

/- The law's own helpers on slices of Pair: sz, to, eq, mark, held. -/
import Derived.Test.YtgpllffiahccjaaA1
import Derived.Test.YtgpllffiahccjaaMem
namespace Go.Proofs.Ytgpllffiahccjaa
set_option linter.unusedSimpArgs false
set_option linter.unusedVariables false
attribute [local go_sem] n_lt2 n_lt3 n_lt4 n_le2 n_le3
open Go.RowKit
attribute [local go_sem] Ext.cell Ext.frozen


theorem info_Pair : (Try.prog.info? 101).map (fun i => (i.zero, i.size, i.bytes)) = some (some (.agg #[.int .i64 0, .int .i64 0]), 2, 16) := by kernel_rfl



set_option maxHeartbeats 2000000 in
theorem equalPairS_any (A B : Option Addr) (n m cap cap' : Nat) (zs ys : List Int) (w : World) (hS : Sl w 2 A n zs) (hT : Sl w 2 B m ys) (hn : n ≤ maxLen) (hm : m ≤ maxLen) :
    Calls Try.prog 83 #[.slice A n cap, .slice B m cap'] w fun e w' => e = .returned (.bool (eqL zs ys)) ∧ Below w.heap.size w w' := by
  unfold maxLen at hn hm
  by_cases hnm : n = m
  · subst hnm
    have HS := Lib.hid hS
    have HT := Lib.hid hT
    clear hS hT
    go_enter Try.func83, Try.ntmps83
    go_wp2
    go_loopw [13] (fun i wr => ∃ (k : Nat), k ≤ n ∧ i = .int .i64 k ∧ Below w.heap.size w wr ∧ Hid (∀ j, j < k * 2 → zs.getD j 0 = ys.getD j 0)) (fun i _ => n - (intOf i).toNat)
    case atStart => exact ⟨0, Nat.zero_le _, rfl, Below.refl _ _, fun j hj => absurd hj (by omega)⟩
    case round =>
      obtain ⟨k, hk, rfl, hbl, hall⟩ := hrel
      by_cases hlt : k < n
      · obtain ⟨b, off, rfl, hb, hcell⟩ := HS.out.at_ (by omega)
        obtain ⟨b', off', rfl, hb', hcell'⟩ := HT.out.at_ (by omega)
        have h0 := hcell (k * 2) (by omega)
        have h1 := hcell (k * 2 + 1) (by omega)
        have p0 := hcell' (k * 2) (by omega)
        have p1 := hcell' (k * 2 + 1) (by omega)
        rw [← hbl.cell (by exact hb)] at h0 h1
        rw [← hbl.cell (by exact hb')] at p0 p1
        simp only [← Nat.add_assoc] at h0 h1 p0 p1
        clear hcell hcell'
        generalize hx0 : zs.getD (k * 2) 0 = x0 at h0
        generalize hx1 : zs.getD (k * 2 + 1) 0 = x1 at h1
        generalize hy0 : ys.getD (k * 2) 0 = y0 at p0
        generalize hy1 : ys.getD (k * 2 + 1) 0 = y1 at p1
        have HX := Lib.hid (And.intro (And.intro hx0 hx1) (And.intro hy0 hy1))
        clear hx0 hy0 hx1 hy1
        have hbr : b < wr.heap.size := Nat.lt_of_lt_of_le hb hbl.size
        have hbr' : b' < wr.heap.size := Nat.lt_of_lt_of_le hb' hbl.size
        have hk2 : (k : Int) < (n : Int) := by omega
        have hcs : (¬ x0 = y0) ∨ (x0 = y0 ∧ ¬ x1 = y1) ∨ (x0 = y0 ∧ x1 = y1) := by omega
        rcases hcs with ⟨d0⟩ | ⟨d0, d1⟩ | ⟨d0, d1⟩
        · have hq' : (x0 == y0) = false := by simpa using d0
          go_wp2
          ((refine wp_region_ext (by kernel_rfl) (by kernel_rfl) ?_); (repeat (any_goals (first | go_big_quiet_step (fail) | (refine wpQuiet_step (fun K hK => ?_); go_simp; split <;> (refine hK _ ?_; clear hK K)) | quiet_step (fail)))); (all_goals (refine wpQuiet_nil ?_; rintro _ ⟨z, rfl⟩; have hb' := z.h; generalize z.w = w1 at hb' ⊢; clear z; (first | (have hb2 := bstep hb' hb hb.size; clear hb' hcb hfb hz1 hz2 hz3 hz4 hb; have hb := hb2; clear hb2) | (have hb := hb'; clear hb')); obtain ⟨hcb, hfb, hz1, hz2, hz3, hz4⟩ := bcell hb; (try simp only [World.size_alloc, World.size_setCell, World.size_drew, Nat.lt_add_one_iff, Nat.add_assoc, Nat.reduceAdd] at hz1 hz2 hz3 hz4))))
          go_wp2
          go_ret
          refine ⟨ret_bool (eqL_ne ?_).symm, bstep hb hbl hbl.size⟩
          rintro rfl
          have hxy := HX.out
          exact d0 (hxy.1.1.symm.trans hxy.2.1)
        · have hq' : (x1 == y1) = false := by simpa using d1
          obtain rfl := d0
          go_wp2
          ((refine wp_region_ext (by kernel_rfl) (by kernel_rfl) ?_); (repeat (any_goals (first | go_big_quiet_step (fail) | (refine wpQuiet_step (fun K hK => ?_); go_simp; split <;> (refine hK _ ?_; clear hK K)) | quiet_step (fail)))); (all_goals (refine wpQuiet_nil ?_; rintro _ ⟨z, rfl⟩; have hb' := z.h; generalize z.w = w1 at hb' ⊢; clear z; (first | (have hb2 := bstep hb' hb hb.size; clear hb' hcb hfb hz1 hz2 hz3 hz4 hb; have hb := hb2; clear hb2) | (have hb := hb'; clear hb')); obtain ⟨hcb, hfb, hz1, hz2, hz3, hz4⟩ := bcell hb; (try simp only [World.size_alloc, World.size_setCell, World.size_drew, Nat.lt_add_one_iff, Nat.add_assoc, Nat.reduceAdd] at hz1 hz2 hz3 hz4))))
          go_wp2
          go_ret
          refine ⟨ret_bool (eqL_ne ?_).symm, bstep hb hbl hbl.size⟩
          rintro rfl
          have hxy := HX.out
          exact d1 (hxy.1.2.symm.trans hxy.2.2)
        · obtain rfl := d0
          obtain rfl := d1
          go_wp2
          ((refine wp_region_ext (by kernel_rfl) (by kernel_rfl) ?_); (repeat (any_goals (first | go_big_quiet_step (fail) | (refine wpQuiet_step (fun K hK => ?_); go_simp; split <;> (refine hK _ ?_; clear hK K)) | quiet_step (fail)))); (all_goals (refine wpQuiet_nil ?_; rintro _ ⟨z, rfl⟩; have hb' := z.h; generalize z.w = w1 at hb' ⊢; clear z; (first | (have hb2 := bstep hb' hb hb.size; clear hb' hcb hfb hz1 hz2 hz3 hz4 hb; have hb := hb2; clear hb2) | (have hb := hb'; clear hb')); obtain ⟨hcb, hfb, hz1, hz2, hz3, hz4⟩ := bcell hb; (try simp only [World.size_alloc, World.size_setCell, World.size_drew, Nat.lt_add_one_iff, Nat.add_assoc, Nat.reduceAdd] at hz1 hz2 hz3 hz4))))
          go_wp2
          refine ⟨⟨k + 1, by omega, by go_num, bstep hb hbl hbl.size, ?_⟩, by simp [intOf]; omega⟩
          intro j hj
          have hxy := HX.out
          rcases (by omega : j < k * 2 ∨ j = k * 2 ∨ j = k * 2 + 1) with h | h | h
          · exact hall.out j h
          · rw [h, hxy.1.1, hxy.2.1]
          · rw [h, hxy.1.2, hxy.2.2]
      · have hkn : k = n := by omega
        subst hkn
        go_wp2
        go_ret
        have hzy : zs = ys := list_ext_getD (by rw [HS.out.len, HT.out.len]) (fun j hj => hall.out j (by rw [HS.out.len] at hj; omega))
        exact ⟨ret_bool (by rw [hzy]; exact (eqL_self _).symm), hbl⟩
  · have hne : ¬ (n : Int) = (m : Int) := by omega
    have hz : eqL zs ys = false := by
      refine eqL_ne ?_
      rintro rfl
      have h1 := hS.len
      have h2 := hT.len
      omega
    rw [hz]
    clear hz hS hT
    go_enter Try.func83, Try.ntmps83
    go_wp2
    go_ret
    exact ⟨rfl, Below.refl _ _⟩


end Go.Proofs.Ytgpllffiahccjaa

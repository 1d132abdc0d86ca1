/- SameJobs. -/
import Derived.Test.YtgpllffiahccjaaJ2
import Derived.Test.YtgpllffiahccjaaSJob
namespace Go.Proofs.Ytgpllffiahccjaa
set_option linter.unusedSimpArgs false
set_option linter.unusedVariables false
attribute [local go_sem] n_lt2 n_lt3 n_lt4 n_le2 n_le3
open Go.RowKit

def sameJobsB (a b : List Jb) : Bool := jobsB a && (jobsB b && eqL (JB a) (JB b))
attribute [local go_sem] Ext.cell Ext.frozen


set_option maxHeartbeats 2000000 in
theorem specSameJobs_any (A B : Option Addr) (n m cap cap' : Nat) (l r : List Jb) (w : World) (hS : Sl w 5 A n (JB l)) (hT : Sl w 5 B m (JB r)) (hl : l.length = n) (hr : r.length = m) (hn : n ≤ maxLen) (hm : m ≤ maxLen) :
    Calls Try.prog 38 #[.slice A n cap, .slice B m cap'] w fun e' w' => e' = .returned (.bool (sameJobsB l r)) ∧ Below w.heap.size w w' := by
  have c1 := specJobsOk_any A n cap l w hS hl hn
  by_cases hpa : jobsB l = true
  · rw [hpa] at c1
    by_cases hpb : jobsB r = true
    · have hv : sameJobsB l r = eqL (JB l) (JB r) := by simp [sameJobsB, hpa, hpb]
      rw [hv]
      by_cases hnm : n = m
      · subst hnm
        go_enter Try.func38, Try.ntmps38
        go_wp2_with fail
        refine c1.mono ?_
        rintro e w1 ⟨rfl, b1⟩
        have c2 := specJobsOk_any B n cap' r w1 (hT.below b1) hr hm
        rw [hpb] at c2
        go_wp2_with fail
        refine c2.mono ?_
        rintro e w2 ⟨rfl, b2⟩
        have F0 := bthen b1 b2
        have HS := Lib.hid (hS.below F0)
        have HT := Lib.hid (hT.below F0)
        clear hS hT c1 c2 hpa hpb hv
        clear b1 b2
        have hfin : ∀ w', Below w2.heap.size w2 w' → Below w.heap.size w w' := fun w' h => bthen F0 h
        unfold maxLen at hn hm
        go_wp2
        go_loopw [5] (fun i wr => ∃ (k : Nat), k ≤ n ∧ i = .int .i64 k ∧ Below w2.heap.size w2 wr ∧ Hid (∀ j, j < k * 5 → (JB l).getD j 0 = (JB r).getD j 0)) (fun i _ => n - (intOf i).toNat)
        case atStart => exact ⟨0, Nat.zero_le _, rfl, Below.refl _ _, fun j hj => absurd hj (by omega)⟩
        case round =>
          obtain ⟨k, hk, rfl, hbl, hall⟩ := hrel
          by_cases hlt : k < n
          · obtain ⟨b, off, rfl, hb, hcell⟩ := HS.out.at_ (by omega)
            obtain ⟨b', off', rfl, hb', hcell'⟩ := HT.out.at_ (by omega)
            have h0 := hcell (k * 5) (by omega)
            have h1 := hcell (k * 5 + 1) (by omega)
            have h2 := hcell (k * 5 + 2) (by omega)
            have h3 := hcell (k * 5 + 3) (by omega)
            have h4 := hcell (k * 5 + 4) (by omega)
            have p0 := hcell' (k * 5) (by omega)
            have p1 := hcell' (k * 5 + 1) (by omega)
            have p2 := hcell' (k * 5 + 2) (by omega)
            have p3 := hcell' (k * 5 + 3) (by omega)
            have p4 := hcell' (k * 5 + 4) (by omega)
            rw [← hbl.cell (by exact hb)] at h0 h1 h2 h3 h4
            rw [← hbl.cell (by exact hb')] at p0 p1 p2 p3 p4
            simp only [← Nat.add_assoc] at h0 h1 h2 h3 h4 p0 p1 p2 p3 p4
            clear hcell hcell'
            generalize hx0 : (JB l).getD (k * 5) 0 = x0 at h0
            generalize hx1 : (JB l).getD (k * 5 + 1) 0 = x1 at h1
            generalize hx2 : (JB l).getD (k * 5 + 2) 0 = x2 at h2
            generalize hx3 : (JB l).getD (k * 5 + 3) 0 = x3 at h3
            generalize hx4 : (JB l).getD (k * 5 + 4) 0 = x4 at h4
            generalize hy0 : (JB r).getD (k * 5) 0 = y0 at p0
            generalize hy1 : (JB r).getD (k * 5 + 1) 0 = y1 at p1
            generalize hy2 : (JB r).getD (k * 5 + 2) 0 = y2 at p2
            generalize hy3 : (JB r).getD (k * 5 + 3) 0 = y3 at p3
            generalize hy4 : (JB r).getD (k * 5 + 4) 0 = y4 at p4
            have HX := Lib.hid (And.intro (And.intro hx0 (And.intro hx1 (And.intro hx2 (And.intro hx3 hx4)))) (And.intro hy0 (And.intro hy1 (And.intro hy2 (And.intro hy3 hy4)))))
            clear hx0 hy0 hx1 hy1 hx2 hy2 hx3 hy3 hx4 hy4
            have hbr : b < wr.heap.size := Nat.lt_of_lt_of_le hb hbl.size
            have hbr' : b' < wr.heap.size := Nat.lt_of_lt_of_le hb' hbl.size
            have hk2 : (k : Int) < (n : Int) := by omega
            have hcs : (¬ x0 = y0) ∨ (x0 = y0 ∧ ¬ x1 = y1) ∨ (x0 = y0 ∧ x1 = y1 ∧ ¬ x2 = y2) ∨ (x0 = y0 ∧ x1 = y1 ∧ x2 = y2 ∧ ¬ x3 = y3) ∨ (x0 = y0 ∧ x1 = y1 ∧ x2 = y2 ∧ x3 = y3 ∧ ¬ x4 = y4) ∨ (x0 = y0 ∧ x1 = y1 ∧ x2 = y2 ∧ x3 = y3 ∧ x4 = y4) := by omega
            rcases hcs with ⟨d0⟩ | ⟨d0, d1⟩ | ⟨d0, d1, d2⟩ | ⟨d0, d1, d2, d3⟩ | ⟨d0, d1, d2, d3, d4⟩ | ⟨d0, d1, d2, d3, d4⟩
            · have hq' : (x0 == y0) = false := by simpa using d0
              go_wp2
              ((refine wp_region_ext (by kernel_rfl) (by kernel_rfl) ?_); (repeat (any_goals (first | go_big_quiet_step (fail) | (refine wpQuiet_step (fun K hK => ?_); go_simp; split <;> (refine hK _ ?_; clear hK K)) | quiet_step (fail)))); (all_goals (refine wpQuiet_nil ?_; rintro _ ⟨z, rfl⟩; have hb' := z.h; generalize z.w = w1 at hb' ⊢; clear z; (first | (have hb2 := bstep hb' hb hb.size; clear hb' hcb hfb hz1 hz2 hz3 hz4 hb; have hb := hb2; clear hb2) | (have hb := hb'; clear hb')); obtain ⟨hcb, hfb, hz1, hz2, hz3, hz4⟩ := bcell hb; (try simp only [World.size_alloc, World.size_setCell, World.size_drew, Nat.lt_add_one_iff, Nat.add_assoc, Nat.reduceAdd] at hz1 hz2 hz3 hz4))))
              go_wp2
              go_ret
              refine ⟨ret_bool (eqL_ne ?_).symm, hfin _ (bstep hb hbl hbl.size)⟩
              intro hzz
              have hxy := HX.out
              rw [hzz] at hxy
              exact d0 (hxy.1.1.symm.trans hxy.2.1)
            · have hq' : (x1 == y1) = false := by simpa using d1
              obtain rfl := d0
              go_wp2
              ((refine wp_region_ext (by kernel_rfl) (by kernel_rfl) ?_); (repeat (any_goals (first | go_big_quiet_step (fail) | (refine wpQuiet_step (fun K hK => ?_); go_simp; split <;> (refine hK _ ?_; clear hK K)) | quiet_step (fail)))); (all_goals (refine wpQuiet_nil ?_; rintro _ ⟨z, rfl⟩; have hb' := z.h; generalize z.w = w1 at hb' ⊢; clear z; (first | (have hb2 := bstep hb' hb hb.size; clear hb' hcb hfb hz1 hz2 hz3 hz4 hb; have hb := hb2; clear hb2) | (have hb := hb'; clear hb')); obtain ⟨hcb, hfb, hz1, hz2, hz3, hz4⟩ := bcell hb; (try simp only [World.size_alloc, World.size_setCell, World.size_drew, Nat.lt_add_one_iff, Nat.add_assoc, Nat.reduceAdd] at hz1 hz2 hz3 hz4))))
              go_wp2
              go_ret
              refine ⟨ret_bool (eqL_ne ?_).symm, hfin _ (bstep hb hbl hbl.size)⟩
              intro hzz
              have hxy := HX.out
              rw [hzz] at hxy
              exact d1 (hxy.1.2.1.symm.trans hxy.2.2.1)
            · have hq' : (x2 == y2) = false := by simpa using d2
              obtain rfl := d0
              obtain rfl := d1
              go_wp2
              ((refine wp_region_ext (by kernel_rfl) (by kernel_rfl) ?_); (repeat (any_goals (first | go_big_quiet_step (fail) | (refine wpQuiet_step (fun K hK => ?_); go_simp; split <;> (refine hK _ ?_; clear hK K)) | quiet_step (fail)))); (all_goals (refine wpQuiet_nil ?_; rintro _ ⟨z, rfl⟩; have hb' := z.h; generalize z.w = w1 at hb' ⊢; clear z; (first | (have hb2 := bstep hb' hb hb.size; clear hb' hcb hfb hz1 hz2 hz3 hz4 hb; have hb := hb2; clear hb2) | (have hb := hb'; clear hb')); obtain ⟨hcb, hfb, hz1, hz2, hz3, hz4⟩ := bcell hb; (try simp only [World.size_alloc, World.size_setCell, World.size_drew, Nat.lt_add_one_iff, Nat.add_assoc, Nat.reduceAdd] at hz1 hz2 hz3 hz4))))
              go_wp2
              go_ret
              refine ⟨ret_bool (eqL_ne ?_).symm, hfin _ (bstep hb hbl hbl.size)⟩
              intro hzz
              have hxy := HX.out
              rw [hzz] at hxy
              exact d2 (hxy.1.2.2.1.symm.trans hxy.2.2.2.1)
            · have hq' : (x3 == y3) = false := by simpa using d3
              obtain rfl := d0
              obtain rfl := d1
              obtain rfl := d2
              go_wp2
              ((refine wp_region_ext (by kernel_rfl) (by kernel_rfl) ?_); (repeat (any_goals (first | go_big_quiet_step (fail) | (refine wpQuiet_step (fun K hK => ?_); go_simp; split <;> (refine hK _ ?_; clear hK K)) | quiet_step (fail)))); (all_goals (refine wpQuiet_nil ?_; rintro _ ⟨z, rfl⟩; have hb' := z.h; generalize z.w = w1 at hb' ⊢; clear z; (first | (have hb2 := bstep hb' hb hb.size; clear hb' hcb hfb hz1 hz2 hz3 hz4 hb; have hb := hb2; clear hb2) | (have hb := hb'; clear hb')); obtain ⟨hcb, hfb, hz1, hz2, hz3, hz4⟩ := bcell hb; (try simp only [World.size_alloc, World.size_setCell, World.size_drew, Nat.lt_add_one_iff, Nat.add_assoc, Nat.reduceAdd] at hz1 hz2 hz3 hz4))))
              go_wp2
              go_ret
              refine ⟨ret_bool (eqL_ne ?_).symm, hfin _ (bstep hb hbl hbl.size)⟩
              intro hzz
              have hxy := HX.out
              rw [hzz] at hxy
              exact d3 (hxy.1.2.2.2.1.symm.trans hxy.2.2.2.2.1)
            · have hq' : (x4 == y4) = false := by simpa using d4
              obtain rfl := d0
              obtain rfl := d1
              obtain rfl := d2
              obtain rfl := d3
              go_wp2
              ((refine wp_region_ext (by kernel_rfl) (by kernel_rfl) ?_); (repeat (any_goals (first | go_big_quiet_step (fail) | (refine wpQuiet_step (fun K hK => ?_); go_simp; split <;> (refine hK _ ?_; clear hK K)) | quiet_step (fail)))); (all_goals (refine wpQuiet_nil ?_; rintro _ ⟨z, rfl⟩; have hb' := z.h; generalize z.w = w1 at hb' ⊢; clear z; (first | (have hb2 := bstep hb' hb hb.size; clear hb' hcb hfb hz1 hz2 hz3 hz4 hb; have hb := hb2; clear hb2) | (have hb := hb'; clear hb')); obtain ⟨hcb, hfb, hz1, hz2, hz3, hz4⟩ := bcell hb; (try simp only [World.size_alloc, World.size_setCell, World.size_drew, Nat.lt_add_one_iff, Nat.add_assoc, Nat.reduceAdd] at hz1 hz2 hz3 hz4))))
              go_wp2
              go_ret
              refine ⟨ret_bool (eqL_ne ?_).symm, hfin _ (bstep hb hbl hbl.size)⟩
              intro hzz
              have hxy := HX.out
              rw [hzz] at hxy
              exact d4 (hxy.1.2.2.2.2.symm.trans hxy.2.2.2.2.2)
            · obtain rfl := d0
              obtain rfl := d1
              obtain rfl := d2
              obtain rfl := d3
              obtain rfl := d4
              go_wp2
              ((refine wp_region_ext (by kernel_rfl) (by kernel_rfl) ?_); (repeat (any_goals (first | go_big_quiet_step (fail) | (refine wpQuiet_step (fun K hK => ?_); go_simp; split <;> (refine hK _ ?_; clear hK K)) | quiet_step (fail)))); (all_goals (refine wpQuiet_nil ?_; rintro _ ⟨z, rfl⟩; have hb' := z.h; generalize z.w = w1 at hb' ⊢; clear z; (first | (have hb2 := bstep hb' hb hb.size; clear hb' hcb hfb hz1 hz2 hz3 hz4 hb; have hb := hb2; clear hb2) | (have hb := hb'; clear hb')); obtain ⟨hcb, hfb, hz1, hz2, hz3, hz4⟩ := bcell hb; (try simp only [World.size_alloc, World.size_setCell, World.size_drew, Nat.lt_add_one_iff, Nat.add_assoc, Nat.reduceAdd] at hz1 hz2 hz3 hz4))))
              go_wp2
              refine ⟨⟨k + 1, by omega, by go_num, bstep hb hbl hbl.size, ?_⟩, by simp [intOf]; omega⟩
              intro j hj
              have hxy := HX.out
              rcases (by omega : j < k * 5 ∨ j = k * 5 ∨ j = k * 5 + 1 ∨ j = k * 5 + 2 ∨ j = k * 5 + 3 ∨ j = k * 5 + 4) with h | h | h | h | h | h
              · exact hall.out j h
              · rw [h, hxy.1.1, hxy.2.1]
              · rw [h, hxy.1.2.1, hxy.2.2.1]
              · rw [h, hxy.1.2.2.1, hxy.2.2.2.1]
              · rw [h, hxy.1.2.2.2.1, hxy.2.2.2.2.1]
              · rw [h, hxy.1.2.2.2.2, hxy.2.2.2.2.2]
          · have hkn : k = n := by omega
            subst hkn
            go_wp2
            go_ret
            have hzy : JB l = JB r := list_ext_getD (by rw [HS.out.len, HT.out.len]) (fun j hj => hall.out j (by rw [HS.out.len] at hj; omega))
            exact ⟨ret_bool (by rw [hzy]; exact (eqL_self _).symm), hfin _ hbl⟩
      · have hz : eqL (JB l) (JB r) = false := by
          refine eqL_ne ?_
          intro h
          have h1 := hS.len
          have h2 := hT.len
          rw [h] at h1
          omega
        have hne : ¬ (n : Int) = (m : Int) := by omega
        rw [hz]
        go_enter Try.func38, Try.ntmps38
        go_wp2_with fail
        refine c1.mono ?_
        rintro e w1 ⟨rfl, b1⟩
        have c2 := specJobsOk_any B m cap' r w1 (hT.below b1) hr hm
        rw [hpb] at c2
        go_wp2_with fail
        refine c2.mono ?_
        rintro e w2 ⟨rfl, b2⟩
        go_wp2
        go_ret
        exact ⟨rfl, bthen b1 b2⟩
    · have hpb' : jobsB r = false := by simpa using hpb
      have hv : sameJobsB l r = false := by simp [sameJobsB, hpb']
      rw [hv]
      go_enter Try.func38, Try.ntmps38
      go_wp2_with fail
      refine c1.mono ?_
      rintro e w1 ⟨rfl, b1⟩
      have c2 := specJobsOk_any B m cap' r w1 (hT.below b1) hr hm
      rw [hpb'] at c2
      go_wp2_with fail
      refine c2.mono ?_
      rintro e w2 ⟨rfl, b2⟩
      go_wp2
      go_ret
      exact ⟨rfl, bthen b1 b2⟩
  · have hpa' : jobsB l = false := by simpa using hpa
    have hv : sameJobsB l r = false := by simp [sameJobsB, hpa']
    rw [hv]
    rw [hpa'] at c1
    go_enter Try.func38, Try.ntmps38
    go_wp2_with fail
    refine c1.mono ?_
    rintro e w1 ⟨rfl, b1⟩
    go_wp2
    go_ret
    exact ⟨rfl, b1⟩
end Go.Proofs.Ytgpllffiahccjaa

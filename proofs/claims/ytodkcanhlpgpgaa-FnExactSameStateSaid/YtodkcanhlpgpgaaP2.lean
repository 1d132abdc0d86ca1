/- SamePairs. -/
import Derived.Test.YtodkcanhlpgpgaaP1
import Derived.Test.YtodkcanhlpgpgaaSPair
namespace Go.Proofs.Ytodkcanhlpgpgaa
set_option linter.unusedSimpArgs false
set_option linter.unusedVariables false
attribute [local go_sem] n_lt2 n_lt3 n_lt4 n_le2 n_le3
open Go.RowKit

def samePairsB (a b : List Pr) : Bool := pairsB a && (pairsB b && eqL (PR a) (PR b))
attribute [local go_sem] Ext.cell Ext.frozen

set_option maxHeartbeats 1000000 in
theorem samePairs_any (A B : Option Addr) (n m cap cap' : Nat) (l r : List Pr) (w : World) (hS : Sl w 2 A n (PR l)) (hT : Sl w 2 B m (PR r)) (hl : l.length = n) (hr : r.length = m) (hn : n ≤ maxLen) (hm : m ≤ maxLen) :
    Calls Try.prog 55 #[.slice A n cap, .slice B m cap'] w fun e' w' => e' = .returned (.bool (samePairsB l r)) ∧ Below w.heap.size w w' := by
  have c1 := pairsOk_any A n cap l w hS hl hn
  by_cases hpa : pairsB l = true
  · rw [hpa] at c1
    by_cases hpb : pairsB r = true
    · have hv : samePairsB l r = eqL (PR l) (PR r) := by simp [samePairsB, hpa, hpb]
      rw [hv]
      generalize hq : eqL (PR l) (PR r) = q
      go_enter Try.func55, Try.ntmps55
      go_wp2_with fail
      refine c1.mono ?_
      rintro e w1 ⟨rfl, b1⟩
      have c2 := pairsOk_any B m cap' r w1 (hT.below b1) hr hm
      rw [hpb] at c2
      go_wp2_with fail
      refine c2.mono ?_
      rintro e w2 ⟨rfl, b2⟩
      have f2 := bthen b1 b2
      have c3 := equalPairS_any A B n m cap cap' (PR l) (PR r) w2 (hS.below f2) (hT.below f2) hn hm
      rw [hq] at c3
      clear hq hv c1 c2
      go_wp2_with fail
      refine c3.mono ?_
      rintro e w3 ⟨rfl, b3⟩
      go_wp2
      all_goals go_ret
      all_goals exact ⟨rfl, bthen f2 b3⟩
    · have hpb' : pairsB r = false := by simpa using hpb
      have hv : samePairsB l r = false := by simp [samePairsB, hpb']
      rw [hv]
      go_enter Try.func55, Try.ntmps55
      go_wp2_with fail
      refine c1.mono ?_
      rintro e w1 ⟨rfl, b1⟩
      have c2 := pairsOk_any B m cap' r w1 (hT.below b1) hr hm
      rw [hpb'] at c2
      go_wp2_with fail
      refine c2.mono ?_
      rintro e w2 ⟨rfl, b2⟩
      go_wp2
      go_ret
      exact ⟨rfl, bthen b1 b2⟩
  · have hpa' : pairsB l = false := by simpa using hpa
    have hv : samePairsB l r = false := by simp [samePairsB, hpa']
    rw [hv]
    rw [hpa'] at c1
    go_enter Try.func55, Try.ntmps55
    go_wp2_with fail
    refine c1.mono ?_
    rintro e w1 ⟨rfl, b1⟩
    go_wp2
    go_ret
    exact ⟨rfl, b1⟩

set_option maxHeartbeats 2000000 in
theorem specSamePairs_any (A B : Option Addr) (n m cap cap' : Nat) (l r : List Pr) (w : World) (hS : Sl w 2 A n (PR l)) (hT : Sl w 2 B m (PR r)) (hl : l.length = n) (hr : r.length = m) (hn : n ≤ maxLen) (hm : m ≤ maxLen) :
    Calls Try.prog 53 #[.slice A n cap, .slice B m cap'] w fun e' w' => e' = .returned (.bool (samePairsB l r)) ∧ Below w.heap.size w w' := by
  have c1 := specPairsOk_any A n cap l w hS hl hn
  by_cases hpa : pairsB l = true
  · rw [hpa] at c1
    by_cases hpb : pairsB r = true
    · have hv : samePairsB l r = eqL (PR l) (PR r) := by simp [samePairsB, hpa, hpb]
      rw [hv]
      by_cases hnm : n = m
      · subst hnm
        go_enter Try.func53, Try.ntmps53
        go_wp2_with fail
        refine c1.mono ?_
        rintro e w1 ⟨rfl, b1⟩
        have c2 := specPairsOk_any B n cap' r w1 (hT.below b1) hr hm
        rw [hpb] at c2
        go_wp2_with fail
        refine c2.mono ?_
        rintro e w2 ⟨rfl, b2⟩
        have F0 := bthen b1 b2
        have HS := Lib.hid (hS.below F0)
        have HT := Lib.hid (hT.below F0)
        clear hS hT c1 c2 hpa hpb hv
        clear b1 b2
        have hfin : ∀ w', Below w2.heap.size w2 w' → Below w.heap.size w w' := fun w' h => bthen F0 h
        unfold maxLen at hn hm
        go_wp2
        go_loopw [5] (fun i wr => ∃ (k : Nat), k ≤ n ∧ i = .int .i64 k ∧ Below w2.heap.size w2 wr ∧ Hid (∀ j, j < k * 2 → (PR l).getD j 0 = (PR r).getD j 0)) (fun i _ => n - (intOf i).toNat)
        case atStart => exact ⟨0, Nat.zero_le _, rfl, Below.refl _ _, fun j hj => absurd hj (by omega)⟩
        case round =>
          obtain ⟨k, hk, rfl, hbl, hall⟩ := hrel
          by_cases hlt : k < n
          · obtain ⟨b, off, rfl, hb, hcell⟩ := HS.out.at_ (by omega)
            obtain ⟨b', off', rfl, hb', hcell'⟩ := HT.out.at_ (by omega)
            have h0 := hcell (k * 2) (by omega)
            have h1 := hcell (k * 2 + 1) (by omega)
            have p0 := hcell' (k * 2) (by omega)
            have p1 := hcell' (k * 2 + 1) (by omega)
            rw [← hbl.cell (by exact hb)] at h0 h1
            rw [← hbl.cell (by exact hb')] at p0 p1
            simp only [← Nat.add_assoc] at h0 h1 p0 p1
            clear hcell hcell'
            generalize hx0 : (PR l).getD (k * 2) 0 = x0 at h0
            generalize hx1 : (PR l).getD (k * 2 + 1) 0 = x1 at h1
            generalize hy0 : (PR r).getD (k * 2) 0 = y0 at p0
            generalize hy1 : (PR r).getD (k * 2 + 1) 0 = y1 at p1
            have HX := Lib.hid (And.intro (And.intro hx0 hx1) (And.intro hy0 hy1))
            clear hx0 hy0 hx1 hy1
            have hbr : b < wr.heap.size := Nat.lt_of_lt_of_le hb hbl.size
            have hbr' : b' < wr.heap.size := Nat.lt_of_lt_of_le hb' hbl.size
            have hk2 : (k : Int) < (n : Int) := by omega
            have hcs : (¬ x0 = y0) ∨ (x0 = y0 ∧ ¬ x1 = y1) ∨ (x0 = y0 ∧ x1 = y1) := by omega
            rcases hcs with ⟨d0⟩ | ⟨d0, d1⟩ | ⟨d0, d1⟩
            · have hq' : (x0 == y0) = false := by simpa using d0
              go_wp2
              ((refine wp_region_ext (by kernel_rfl) (by kernel_rfl) ?_); (repeat (any_goals (first | go_big_quiet_step (fail) | (refine wpQuiet_step (fun K hK => ?_); go_simp; split <;> (refine hK _ ?_; clear hK K)) | quiet_step (fail)))); (all_goals (refine wpQuiet_nil ?_; rintro _ ⟨z, rfl⟩; have hb' := z.h; generalize z.w = w1 at hb' ⊢; clear z; (first | (have hb2 := bstep hb' hb hb.size; clear hb' hcb hfb hz1 hz2 hz3 hz4 hb; have hb := hb2; clear hb2) | (have hb := hb'; clear hb')); obtain ⟨hcb, hfb, hz1, hz2, hz3, hz4⟩ := bcell hb; (try simp only [World.size_alloc, World.size_setCell, World.size_drew, Nat.lt_add_one_iff, Nat.add_assoc, Nat.reduceAdd] at hz1 hz2 hz3 hz4))))
              go_wp2
              go_ret
              refine ⟨ret_bool (eqL_ne ?_).symm, hfin _ (bstep hb hbl hbl.size)⟩
              intro hzz
              have hxy := HX.out
              rw [hzz] at hxy
              exact d0 (hxy.1.1.symm.trans hxy.2.1)
            · have hq' : (x1 == y1) = false := by simpa using d1
              obtain rfl := d0
              go_wp2
              ((refine wp_region_ext (by kernel_rfl) (by kernel_rfl) ?_); (repeat (any_goals (first | go_big_quiet_step (fail) | (refine wpQuiet_step (fun K hK => ?_); go_simp; split <;> (refine hK _ ?_; clear hK K)) | quiet_step (fail)))); (all_goals (refine wpQuiet_nil ?_; rintro _ ⟨z, rfl⟩; have hb' := z.h; generalize z.w = w1 at hb' ⊢; clear z; (first | (have hb2 := bstep hb' hb hb.size; clear hb' hcb hfb hz1 hz2 hz3 hz4 hb; have hb := hb2; clear hb2) | (have hb := hb'; clear hb')); obtain ⟨hcb, hfb, hz1, hz2, hz3, hz4⟩ := bcell hb; (try simp only [World.size_alloc, World.size_setCell, World.size_drew, Nat.lt_add_one_iff, Nat.add_assoc, Nat.reduceAdd] at hz1 hz2 hz3 hz4))))
              go_wp2
              go_ret
              refine ⟨ret_bool (eqL_ne ?_).symm, hfin _ (bstep hb hbl hbl.size)⟩
              intro hzz
              have hxy := HX.out
              rw [hzz] at hxy
              exact d1 (hxy.1.2.symm.trans hxy.2.2)
            · obtain rfl := d0
              obtain rfl := d1
              go_wp2
              ((refine wp_region_ext (by kernel_rfl) (by kernel_rfl) ?_); (repeat (any_goals (first | go_big_quiet_step (fail) | (refine wpQuiet_step (fun K hK => ?_); go_simp; split <;> (refine hK _ ?_; clear hK K)) | quiet_step (fail)))); (all_goals (refine wpQuiet_nil ?_; rintro _ ⟨z, rfl⟩; have hb' := z.h; generalize z.w = w1 at hb' ⊢; clear z; (first | (have hb2 := bstep hb' hb hb.size; clear hb' hcb hfb hz1 hz2 hz3 hz4 hb; have hb := hb2; clear hb2) | (have hb := hb'; clear hb')); obtain ⟨hcb, hfb, hz1, hz2, hz3, hz4⟩ := bcell hb; (try simp only [World.size_alloc, World.size_setCell, World.size_drew, Nat.lt_add_one_iff, Nat.add_assoc, Nat.reduceAdd] at hz1 hz2 hz3 hz4))))
              go_wp2
              refine ⟨⟨k + 1, by omega, by go_num, bstep hb hbl hbl.size, ?_⟩, by simp [intOf]; omega⟩
              intro j hj
              have hxy := HX.out
              rcases (by omega : j < k * 2 ∨ j = k * 2 ∨ j = k * 2 + 1) with h | h | h
              · exact hall.out j h
              · rw [h, hxy.1.1, hxy.2.1]
              · rw [h, hxy.1.2, hxy.2.2]
          · have hkn : k = n := by omega
            subst hkn
            go_wp2
            go_ret
            have hzy : PR l = PR r := list_ext_getD (by rw [HS.out.len, HT.out.len]) (fun j hj => hall.out j (by rw [HS.out.len] at hj; omega))
            exact ⟨ret_bool (by rw [hzy]; exact (eqL_self _).symm), hfin _ hbl⟩
      · have hz : eqL (PR l) (PR r) = false := by
          refine eqL_ne ?_
          intro h
          have h1 := hS.len
          have h2 := hT.len
          rw [h] at h1
          omega
        have hne : ¬ (n : Int) = (m : Int) := by omega
        rw [hz]
        go_enter Try.func53, Try.ntmps53
        go_wp2_with fail
        refine c1.mono ?_
        rintro e w1 ⟨rfl, b1⟩
        have c2 := specPairsOk_any B m cap' r w1 (hT.below b1) hr hm
        rw [hpb] at c2
        go_wp2_with fail
        refine c2.mono ?_
        rintro e w2 ⟨rfl, b2⟩
        go_wp2
        go_ret
        exact ⟨rfl, bthen b1 b2⟩
    · have hpb' : pairsB r = false := by simpa using hpb
      have hv : samePairsB l r = false := by simp [samePairsB, hpb']
      rw [hv]
      go_enter Try.func53, Try.ntmps53
      go_wp2_with fail
      refine c1.mono ?_
      rintro e w1 ⟨rfl, b1⟩
      have c2 := specPairsOk_any B m cap' r w1 (hT.below b1) hr hm
      rw [hpb'] at c2
      go_wp2_with fail
      refine c2.mono ?_
      rintro e w2 ⟨rfl, b2⟩
      go_wp2
      go_ret
      exact ⟨rfl, bthen b1 b2⟩
  · have hpa' : pairsB l = false := by simpa using hpa
    have hv : samePairsB l r = false := by simp [samePairsB, hpa']
    rw [hv]
    rw [hpa'] at c1
    go_enter Try.func53, Try.ntmps53
    go_wp2_with fail
    refine c1.mono ?_
    rintro e w1 ⟨rfl, b1⟩
    go_wp2
    go_ret
    exact ⟨rfl, b1⟩
end Go.Proofs.Ytodkcanhlpgpgaa

/- The walk of the law FnJobsBack. -/
import Derived.Test.YtgpllffiahccjaaD4
import Derived.Test.YtgpllffiahccjaaRJ
import Derived.Test.YtgpllffiahccjaaJ6
import Derived.Test.YtgpllffiahccjaaJ3
import Derived.Test.YtgpllffiahccjaaDice
namespace Go.Proofs.Ytgpllffiahccjaa
set_option linter.unusedSimpArgs false
set_option linter.unusedVariables false
attribute [local go_sem] n_lt2 n_lt3 n_lt4 n_le2 n_le3
open Go.RowKit
attribute [local go_sem] Ext.cell Ext.frozen

set_option maxRecDepth 100000 in
set_option maxHeartbeats 4000000 in
theorem law_JobsBack (A : Option Addr) (n cap : Nat) (bs : List Int) (w : World) (hS : SlB w A n bs) (hnc : n ≤ cap) (hcm : cap ≤ maxLen) :
    Calls Try.prog 6 #[.slice A n cap] w fun e' w' => e' = .returned (.bool true) ∧ Below w.heap.size w w' := by
  have hm0 : n ≤ maxLen := Nat.le_trans hnc hcm
  by_cases hbig : 4096 < n
  · have hd : decide (4096 < n) = true := decide_eq_true hbig
    have cb := big_any A n cap w hm0
    rw [hd] at cb
    clear hd hbig
    go_enter Try.func6, Try.ntmps6
    go_wp21
    refine cb.mono ?_
    rintro e w' ⟨rfl, rfl⟩
    go_wp21
    go_ret
    exact ⟨rfl, Below.refl _ _⟩
  have hd : decide (4096 < n) = false := decide_eq_false hbig
  have cb := big_any A n cap w hm0
  rw [hd] at cb
  have HSB := Lib.hid hS
  clear hd hS
  go_enter Try.func6, Try.ntmps6
  go_wp21
  refine cb.mono ?_
  rintro e w' ⟨rfl, rfl⟩
  clear cb
  have B0 : Below w.heap.size w w := Below.refl _ _
  go_wp2_with fail
  refine (DrawOrdersRow_any A n cap bs w HSB.out (by omega)).mono ?_
  rintro e w1 ⟨A_l, m, c_l, zl, rfl, hm, R_l, b1⟩
  have G_l : w.heap.size ≤ w.heap.size := Nat.le_refl _
  have F_1 := b1
  have l_1 := R_l
  clear R_l
  obtain ⟨x, hx, rfl⟩ := JB_of m zl l_1.len
  subst hx
  have hma : x.length ≤ maxLen := by unfold maxLen; omega
  have hrl := ordersRowL_len x
  have e3 := ordersRow_any A_l x.length c_l x w1 l_1.sl rfl hma
  have e9 := fun w9 hS => specJobsOk_any A_l x.length c_l x w9 hS rfl hma
  cases hb : jobsB x with
  | false =>
    have hr : rowOrdersR (ordersRowL x) = ([], false) := by
      refine rowOrdersR_no (fun l' h => ?_)
      unfold ordersRowL at h
      rw [if_neg (by rw [hb]; simp)] at h
      cases h
    generalize ordersRowL x = P at e3 hrl hr
    have hPm : P.length ≤ maxLen := by unfold maxLen; omega
    have HRR := Lib.hid hr
    rw [hb] at e9
    have HB := Lib.hid hb
    have E9 := Lib.hid e9
    clear hr hb e9
    go_wp2_with fail
    refine (e3).mono ?_
    rintro e w2 ⟨A_p, c_p, rfl, R_p, b2⟩
    clear e3
    have L_l_p := l_1.lt
    have G_p : w.heap.size ≤ w1.heap.size := F_1.size
    have l_2 := l_1.below b2
    clear l_1
    have F_2 := bthen F_1 b2
    have p_2 := R_p
    clear R_p
    have e4 := RowOrders_any A_p P.length c_p P w2 p_2.sl (by omega) p_2.cap_le.1 p_2.cap_le.2 p_2.lt
    rw [HRR.out] at e4
    go_wp2_with fail
    refine (e4).mono ?_
    rintro e w3 ⟨A_k, c_k, rfl, R_k, b3⟩
    clear e4
    have L_l_k := l_2.lt
    have L_p_k := p_2.lt
    have G_k : w.heap.size ≤ w2.heap.size := F_2.size
    have l_3 := l_2.below b3
    clear l_2
    have p_3 := p_2.below b3
    clear p_2
    have F_3 := bthen F_2 b3
    have k_3 := R_k
    clear R_k
    go_wp2_with fail
    refine (E9.out w3 l_3.sl).mono ?_
    rintro e w4 ⟨rfl, b4⟩
    have l_4 := l_3.below b4
    clear l_3
    have p_4 := p_3.below b4
    clear p_3
    have k_4 := k_3.below b4
    clear k_3
    have F_4 := bthen F_3 b4
    go_wp2
    go_ret
    exact ⟨ret_bool (by simp), F_4⟩
  | true =>
    have hr : rowOrdersR (ordersRowL x) = (x, true) := by
      refine rowOrdersR_yes ?_ hb
      unfold ordersRowL
      rw [if_pos hb]
    generalize ordersRowL x = P at e3 hrl hr
    have hPm : P.length ≤ maxLen := by unfold maxLen; omega
    have HRR := Lib.hid hr
    rw [hb] at e9
    have HB := Lib.hid hb
    have E9 := Lib.hid e9
    clear hr hb e9
    go_wp2_with fail
    refine (e3).mono ?_
    rintro e w2 ⟨A_p, c_p, rfl, R_p, b2⟩
    clear e3
    have L_l_p := l_1.lt
    have G_p : w.heap.size ≤ w1.heap.size := F_1.size
    have l_2 := l_1.below b2
    clear l_1
    have F_2 := bthen F_1 b2
    have p_2 := R_p
    clear R_p
    have e4 := RowOrders_any A_p P.length c_p P w2 p_2.sl (by omega) p_2.cap_le.1 p_2.cap_le.2 p_2.lt
    rw [HRR.out] at e4
    go_wp2_with fail
    refine (e4).mono ?_
    rintro e w3 ⟨A_k, c_k, rfl, R_k, b3⟩
    clear e4
    have L_l_k := l_2.lt
    have L_p_k := p_2.lt
    have G_k : w.heap.size ≤ w2.heap.size := F_2.size
    have l_3 := l_2.below b3
    clear l_2
    have p_3 := p_2.below b3
    clear p_2
    have F_3 := bthen F_2 b3
    have k_3 := R_k
    clear R_k
    go_wp2_with fail
    refine (E9.out w3 l_3.sl).mono ?_
    rintro e w4 ⟨rfl, b4⟩
    have l_4 := l_3.below b4
    clear l_3
    have p_4 := p_3.below b4
    clear p_3
    have k_4 := k_3.below b4
    clear k_3
    have F_4 := bthen F_3 b4
    have hs : sameJobsB x x = true := by unfold sameJobsB; rw [HB.out, eqL_self]; rfl
    have e6 := specSameJobs_any A_k A_l x.length x.length c_k c_l x x w4 k_4.sl l_4.sl rfl rfl hma hma
    rw [hs] at e6
    clear hs
    go_wp2_with fail
    refine (e6).mono ?_
    rintro e w5 ⟨rfl, b5⟩
    clear e6
    have l_5 := l_4.below b5
    clear l_4
    have p_5 := p_4.below b5
    clear p_4
    have k_5 := k_4.below b5
    clear k_4
    have F_5 := bthen F_4 b5
    go_wp2
    go_ret
    exact ⟨ret_bool (by simp), F_5⟩
end Go.Proofs.Ytgpllffiahccjaa

/- The walk of the law FnJobOnce. -/
import Derived.Test.YtgpllffiahccjaaD5
import Derived.Test.YtgpllffiahccjaaOnceL
import Derived.Test.YtgpllffiahccjaaJ9
import Derived.Test.YtgpllffiahccjaaJ11
import Derived.Test.YtgpllffiahccjaaJ5
import Derived.Test.YtgpllffiahccjaaJ2
import Derived.Test.YtgpllffiahccjaaOnceC
import Derived.Test.YtgpllffiahccjaaDice
namespace Go.Proofs.Ytgpllffiahccjaa
set_option linter.unusedSimpArgs false
set_option linter.unusedVariables false
attribute [local go_sem] n_lt2 n_lt3 n_lt4 n_le2 n_le3
open Go.RowKit
attribute [local go_sem] Ext.cell Ext.frozen

set_option maxRecDepth 100000 in
set_option maxHeartbeats 4000000 in
theorem law_JobOnce (A : Option Addr) (n cap : Nat) (bs : List Int) (w : World) (hS : SlB w A n bs) (hnc : n ≤ cap) (hcm : cap ≤ maxLen) :
    Calls Try.prog 8 #[.slice A n cap] w fun e' w' => e' = .returned (.bool true) ∧ Below w.heap.size w w' := by
  have hm0 : n ≤ maxLen := Nat.le_trans hnc hcm
  by_cases hbig : 4096 < n
  · have hd : decide (4096 < n) = true := decide_eq_true hbig
    have cb := big_any A n cap w hm0
    rw [hd] at cb
    clear hd hbig
    go_enter Try.func8, Try.ntmps8
    go_wp21
    refine cb.mono ?_
    rintro e w' ⟨rfl, rfl⟩
    go_wp21
    go_ret
    exact ⟨rfl, Below.refl _ _⟩
  have hd : decide (4096 < n) = false := decide_eq_false hbig
  have cb := big_any A n cap w hm0
  rw [hd] at cb
  have HSB := Lib.hid hS
  clear hd hS
  go_enter Try.func8, Try.ntmps8
  go_wp21
  refine cb.mono ?_
  rintro e w' ⟨rfl, rfl⟩
  clear cb
  have B0 : Below w.heap.size w w := Below.refl _ _
  go_wp2_with fail
  refine (DrawJobFired_any A n cap bs w HSB.out (by omega)).mono ?_
  rintro e w1 ⟨A_l, m, c_l, zl, id, x, rfl, hm, R_l, b1⟩
  have G_l : w.heap.size ≤ w.heap.size := Nat.le_refl _
  have F_1 := b1
  have l_1 := R_l
  clear R_l
  have hmm : m ≤ maxLen := by unfold maxLen; omega
  obtain ⟨l0, hl0, rfl⟩ := JB_of m zl l_1.len
  obtain ⟨z, q, hva⟩ : ∃ z q, firedR l0 id x = (z, q) := ⟨_, _, rfl⟩
  have hzl : z.length ≤ 9 ∨ z.length ≤ 11 := by have := firedR_len l0 id x; rw [hva] at this; left; exact this
  have hzm : z.length ≤ maxLen := by unfold maxLen; omega
  have e1 := firedRS_any A_l m c_l l0 id x w1 l_1.sl hl0 hmm l_1.nil_of
  rw [hva] at e1
  go_wp2_with fail
  refine (e1).mono ?_
  rintro e w2 ⟨A_r, c_r, rfl, R_r, b2⟩
  clear e1
  have L_l_r := l_1.lt
  have G_r : w.heap.size ≤ w1.heap.size := F_1.size
  have l_2 := l_1.below b2
  clear l_1
  have F_2 := bthen F_1 b2
  have r_2 := R_r
  clear R_r
  have e2 := firedRI_any A_l m c_l l0 id x w2 l_2.sl hl0 hmm l_2.nil_of
  rw [hva] at e2
  go_wp2_with fail
  refine (e2).mono ?_
  rintro e w3 ⟨A_g, c_g, rfl, R_g, b3⟩
  clear e2
  have L_l_g := l_2.lt
  have L_r_g := r_2.lt
  have G_g : w.heap.size ≤ w2.heap.size := F_2.size
  have l_3 := l_2.below b3
  clear l_2
  have r_3 := r_2.below b3
  clear r_2
  have F_3 := bthen F_2 b3
  have g_3 := R_g
  clear R_g
  have HV := Lib.hid hva
  clear hva
  cases q with
  | false =>
    go_wp2
    go_ret
    exact ⟨ret_bool (by simp), F_3⟩
  | true =>
    obtain ⟨hz, hat1, hat2, hag, hot⟩ := once_of HV.out
    clear HV
    have HZ := Lib.hid hz
    have HAG := Lib.hid hag
    have HOT := Lib.hid hot
    obtain ⟨⟨j0, j1, j2, j3, j4⟩, qj, hj⟩ : ∃ j q, jobAtR z id = (j, q) := ⟨_, _, rfl⟩
    have hq : qj = true := by rw [hj] at hat1; exact hat1
    have h4 : j4 = x := by rw [hj] at hat2; exact hat2
    subst hq
    subst h4
    clear hz hag hot hat1 hat2
    have e3 := jobAtR_any A_g z.length c_g z id w3 g_3.sl rfl hzm
    rw [hj] at e3
    clear hj
    go_wp2_with fail
    refine (e3).mono ?_
    rintro e w4 ⟨rfl, b4⟩
    clear e3
    have l_4 := l_3.below b4
    clear l_3
    have r_4 := r_3.below b4
    clear r_3
    have g_4 := g_3.below b4
    clear g_3
    have F_4 := bthen F_3 b4
    go_wp2_with fail
    refine calls_named ?_
    rintro w5 hw5
    have K_5 : Blk w5 w4.heap.size 68 #[.int .i64 j0, .int .i64 j1, .int .i64 j2, .int .i64 j3, .int .i64 j4] := by rw [hw5]; exact Blk.new_at _ _ _ _ (by simp)
    have b5 : Below w4.heap.size w4 w5 := by rw [hw5]; exact (Below.refl _ _).alloc (Nat.le_refl _) _
    clear hw5
    have l_5 := l_4.below b5
    clear l_4
    have r_5 := r_4.below b5
    clear r_4
    have g_5 := g_4.below b5
    clear g_4
    have F_5 := bthen F_4 b5
    have e4 := again_any A_g z.length c_g z id HAG.out w5 g_5.sl hzm g_5.nil_of
    refine (e4 _).mono ?_
    rintro e w6 ⟨A_a, c_a, n_a, rfl, b6⟩
    have l_6 := l_5.below b6
    clear l_5
    have r_6 := r_5.below b6
    clear r_5
    have g_6 := g_5.below b6
    clear g_5
    have K_6 := K_5.below b6
    clear K_5
    have F_6 := bthen F_5 b6
    clear e4
    have e5 := other_any A_g z.length c_g z id HOT.out w6 g_6.sl hzm g_6.nil_of
    go_wp2_with fail
    refine (e5 _ _ _ _).mono ?_
    rintro e w7 ⟨A_o, c_o, n_o, rfl, b7⟩
    have l_7 := l_6.below b7
    clear l_6
    have r_7 := r_6.below b7
    clear r_6
    have g_7 := g_6.below b7
    clear g_6
    have K_7 := K_6.below b7
    clear K_6
    have F_7 := bthen F_6 b7
    clear e5
    have lt_K := K_7.lt
    have r_K0 := K_7.cell 0
    have r_K1 := K_7.cell 1
    have r_K2 := K_7.cell 2
    have r_K3 := K_7.cell 3
    have r_K4 := K_7.cell 4
    simp only [List.getElem?_toArray, List.getElem?_cons_zero, List.getElem?_cons_succ] at r_K0 r_K1 r_K2 r_K3 r_K4
    have e6 := jobsOk_any A_g z.length c_g z w7 g_7.sl rfl hzm
    rw [HZ.out] at e6
    go_wp2_with fail
    refine (e6).mono ?_
    rintro e w8 ⟨rfl, b8⟩
    clear e6
    have l_8 := l_7.below b8
    clear l_7
    have r_8 := r_7.below b8
    clear r_7
    have g_8 := g_7.below b8
    clear g_7
    have K_8 := K_7.below b8
    clear K_7
    have F_8 := bthen F_7 b8
    clear lt_K r_K0 r_K1 r_K2 r_K3 r_K4
    go_wp2
    go_ret
    exact ⟨ret_bool (by simp), F_8⟩
end Go.Proofs.Ytgpllffiahccjaa

/- The walk of the law FnPut. -/
import Derived.Test.YtgpllffiahccjaaBackL
import Derived.Test.YtgpllffiahccjaaD2
import Derived.Test.YtgpllffiahccjaaP12
import Derived.Test.YtgpllffiahccjaaP10
import Derived.Test.YtgpllffiahccjaaDice
namespace Go.Proofs.Ytgpllffiahccjaa
set_option linter.unusedSimpArgs false
set_option linter.unusedVariables false
attribute [local go_sem] n_lt2 n_lt3 n_lt4 n_le2 n_le3
open Go.RowKit
attribute [local go_sem] Ext.cell Ext.frozen

set_option maxRecDepth 100000 in
set_option maxHeartbeats 4000000 in
theorem law_Put (A : Option Addr) (n cap : Nat) (bs : List Int) (w : World) (hS : SlB w A n bs) (hnc : n ≤ cap) (hcm : cap ≤ maxLen) :
    Calls Try.prog 7 #[.slice A n cap] w fun e' w' => e' = .returned (.bool true) ∧ Below w.heap.size w w' := by
  have hm0 : n ≤ maxLen := Nat.le_trans hnc hcm
  by_cases hbig : 4096 < n
  · have hd : decide (4096 < n) = true := decide_eq_true hbig
    have cb := big_any A n cap w hm0
    rw [hd] at cb
    clear hd hbig
    go_enter Try.func7, Try.ntmps7
    go_wp21
    refine cb.mono ?_
    rintro e w' ⟨rfl, rfl⟩
    go_wp21
    go_ret
    exact ⟨rfl, Below.refl _ _⟩
  have hd : decide (4096 < n) = false := decide_eq_false hbig
  have cb := big_any A n cap w hm0
  rw [hd] at cb
  have HSB := Lib.hid hS
  clear hd hS
  go_enter Try.func7, Try.ntmps7
  go_wp21
  refine cb.mono ?_
  rintro e w' ⟨rfl, rfl⟩
  clear cb
  have B0 : Below w.heap.size w w := Below.refl _ _
  go_wp2_with fail
  refine (DrawPut_any A n cap bs w HSB.out (by omega)).mono ?_
  rintro e w1 ⟨A_l, m, c_l, zl, key, v, rfl, hm, R_l, b1⟩
  have G_l : w.heap.size ≤ w.heap.size := Nat.le_refl _
  have F_1 := b1
  have l_1 := R_l
  clear R_l
  have hmm : m ≤ maxLen := by unfold maxLen; omega
  obtain ⟨l0, hl0, rfl⟩ := PR_of m zl l_1.len
  obtain ⟨z, q, hva⟩ : ∃ z q, putR l0 key v = (z, q) := ⟨_, _, rfl⟩
  have hzl : z.length ≤ 11 := by have := putR_len l0 key v; rw [hva] at this; exact this
  have hzm : z.length ≤ maxLen := by unfold maxLen; omega
  have e1 := putRS_any A_l m c_l l0 key v w1 l_1.sl hl0 hmm l_1.nil_of
  rw [hva] at e1
  go_wp2_with fail
  refine (e1).mono ?_
  rintro e w2 ⟨A_r, c_r, rfl, R_r, b2⟩
  clear e1
  have L_l_r := l_1.lt
  have G_r : w.heap.size ≤ w1.heap.size := F_1.size
  have l_2 := l_1.below b2
  clear l_1
  have F_2 := bthen F_1 b2
  have r_2 := R_r
  clear R_r
  have e2 := putRI_any A_l m c_l l0 key v w2 l_2.sl hl0 hmm l_2.nil_of
  rw [hva] at e2
  go_wp2_with fail
  refine (e2).mono ?_
  rintro e w3 ⟨A_g, c_g, rfl, R_g, b3⟩
  clear e2
  have L_l_g := l_2.lt
  have L_r_g := r_2.lt
  have G_g : w.heap.size ≤ w2.heap.size := F_2.size
  have l_3 := l_2.below b3
  clear l_2
  have r_3 := r_2.below b3
  clear r_2
  have F_3 := bthen F_2 b3
  have g_3 := R_g
  clear R_g
  have HV := Lib.hid hva
  clear hva
  cases q with
  | false =>
    go_wp2
    go_ret
    exact ⟨ret_bool (by simp), F_3⟩
  | true =>
    obtain ⟨hpl, hpr, rfl⟩ := putR_yes HV.out
    have e3 := valueAt_any A_g _ c_g _ key w3 g_3.sl rfl hzm
    rw [put_val hpl hpr] at e3
    have hcr := put_cut hpl hpr
    have hok := put_ok hpl hpr
    have hun := put_unlike (l := l0) (key := key) (v := v)
    have hlen := cut_len (key := key) hok ⟨_, put_mem l0 key v, rfl⟩
    have hgone := cut_gone (key := key) hok
    have hcok := cut_ok (key := key) hok
    generalize putL l0 key v = z at *
    generalize cutL z key = y at *
    have HC := Lib.hid hcr
    have HG := Lib.hid hgone
    have HK := Lib.hid hcok
    have HO := Lib.hid hok
    have HP := Lib.hid hpl
    clear hcr hgone hcok hok HV hpl hpr
    go_wp2_with fail
    refine (e3).mono ?_
    rintro e w4 ⟨rfl, b4⟩
    clear e3
    have l_4 := l_3.below b4
    clear l_3
    have r_4 := r_3.below b4
    clear r_3
    have g_4 := g_3.below b4
    clear g_3
    have F_4 := bthen F_3 b4
    have e4 := unlikeIn_any A_l A_g m z.length c_l c_g l0 z w4 l_4.sl g_4.sl hl0 rfl hmm hzm
    generalize unlikeL l0 z = Z at e4 hun
    have hun1 : ¬ (1 : Int) < (Z.length : Int) := by omega
    go_wp2_with fail
    refine (e4).mono ?_
    rintro e w5 ⟨A_u, c_u, rfl, R_u, b5⟩
    clear e4
    have L_l_u := l_4.lt
    have L_r_u := r_4.lt
    have L_g_u := g_4.lt
    have G_u : w.heap.size ≤ w4.heap.size := F_4.size
    have l_5 := l_4.below b5
    clear l_4
    have r_5 := r_4.below b5
    clear r_4
    have g_5 := g_4.below b5
    clear g_4
    have F_5 := bthen F_4 b5
    have u_5 := R_u
    clear R_u
    have e5 := cutOutR_any A_g _ c_g z key w5 g_5.sl rfl hzm g_5.nil_of
    rw [HC.out] at e5
    go_wp2_with fail
    refine (e5).mono ?_
    rintro e w6 ⟨A_y, c_y, rfl, R_y, b6⟩
    clear e5
    have L_l_y := l_5.lt
    have L_r_y := r_5.lt
    have L_g_y := g_5.lt
    have L_u_y := u_5.lt
    have G_y : w.heap.size ≤ w5.heap.size := F_5.size
    have l_6 := l_5.below b6
    clear l_5
    have r_6 := r_5.below b6
    clear r_5
    have g_6 := g_5.below b6
    clear g_5
    have u_6 := u_5.below b6
    clear u_5
    have F_6 := bthen F_5 b6
    have y_6 := R_y
    clear R_y
    have hym : y.length ≤ maxLen := by unfold maxLen; omega
    have e6 := valueAt_any A_y _ c_y y key w6 y_6.sl rfl hym
    rw [HG.out] at e6
    go_wp2_with fail
    refine (e6).mono ?_
    rintro e w7 ⟨rfl, b7⟩
    clear e6
    have l_7 := l_6.below b7
    clear l_6
    have r_7 := r_6.below b7
    clear r_6
    have g_7 := g_6.below b7
    clear g_6
    have u_7 := u_6.below b7
    clear u_6
    have y_7 := y_6.below b7
    clear y_6
    have F_7 := bthen F_6 b7
    have e7 := pairsOk_any A_y _ c_y y w7 y_7.sl rfl hym
    rw [HK.out] at e7
    have hle : (y.length : Int) = (z.length : Int) - 1 := by omega
    have HL := Lib.hid hle
    clear hle hlen
    go_wp2_with fail
    refine (e7).mono ?_
    rintro e w8 ⟨rfl, b8⟩
    clear e7
    have l_8 := l_7.below b8
    clear l_7
    have r_8 := r_7.below b8
    clear r_7
    have g_8 := g_7.below b8
    clear g_7
    have u_8 := u_7.below b8
    clear u_7
    have y_8 := y_7.below b8
    clear y_7
    have F_8 := bthen F_7 b8
    go_wp2
    go_ret
    exact ⟨ret_bool (by rw [HL.out]; simp), F_8⟩
end Go.Proofs.Ytgpllffiahccjaa

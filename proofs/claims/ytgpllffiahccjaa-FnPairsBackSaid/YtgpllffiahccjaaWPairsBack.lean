/- The walk of the law FnPairsBack. -/
import Derived.Test.YtgpllffiahccjaaBackL
import Derived.Test.YtgpllffiahccjaaD2
import Derived.Test.YtgpllffiahccjaaLike
import Derived.Test.YtgpllffiahccjaaP6
import Derived.Test.YtgpllffiahccjaaRP
import Derived.Test.YtgpllffiahccjaaDice
namespace Go.Proofs.Ytgpllffiahccjaa
set_option linter.unusedSimpArgs false
set_option linter.unusedVariables false
attribute [local go_sem] n_lt2 n_lt3 n_lt4 n_le2 n_le3
open Go.RowKit
attribute [local go_sem] Ext.cell Ext.frozen

set_option maxRecDepth 100000 in
set_option maxHeartbeats 4000000 in
theorem law_PairsBack (A : Option Addr) (n cap : Nat) (bs : List Int) (w : World) (hS : SlB w A n bs) (hnc : n ≤ cap) (hcm : cap ≤ maxLen) :
    Calls Try.prog 5 #[.slice A n cap] w fun e' w' => e' = .returned (.bool true) ∧ Below w.heap.size w w' := by
  have hm0 : n ≤ maxLen := Nat.le_trans hnc hcm
  by_cases hbig : 4096 < n
  · have hd : decide (4096 < n) = true := decide_eq_true hbig
    have cb := big_any A n cap w hm0
    rw [hd] at cb
    clear hd hbig
    go_enter Try.func5, Try.ntmps5
    go_wp21
    refine cb.mono ?_
    rintro e w' ⟨rfl, rfl⟩
    go_wp21
    go_ret
    exact ⟨rfl, Below.refl _ _⟩
  have hd : decide (4096 < n) = false := decide_eq_false hbig
  have cb := big_any A n cap w hm0
  rw [hd] at cb
  have HSB := Lib.hid hS
  clear hd hS
  go_enter Try.func5, Try.ntmps5
  go_wp21
  refine cb.mono ?_
  rintro e w' ⟨rfl, rfl⟩
  clear cb
  have B0 : Below w.heap.size w w := Below.refl _ _
  go_wp2_with fail
  refine (DrawUnlikeIn_any A n cap bs w HSB.out (by omega)).mono ?_
  rintro e w1 ⟨A_a, na, c_a, za, A_b, nb, c_b, zb, rfl, hna, hnb, R_a, R_b, hapab, b1⟩
  have G_a : w.heap.size ≤ w.heap.size := Nat.le_refl _
  have G_b : w.heap.size ≤ w.heap.size := Nat.le_refl _
  have F_1 := b1
  have a_1 := R_a
  clear R_a
  have b_1 := R_b
  clear R_b
  have hma : na ≤ maxLen := by unfold maxLen; omega
  have hmb : nb ≤ maxLen := by unfold maxLen; omega
  obtain ⟨x, hx, rfl⟩ := PR_of na za a_1.len
  obtain ⟨y, hy, rfl⟩ := PR_of nb zb b_1.len
  subst hx
  subst hy
  clear hapab
  have e1 := specPairsOk_any A_a x.length c_a x w1 a_1.sl rfl hma
  cases ha : pairsB x with
  | false =>
    rw [ha] at e1
    go_wp2_with fail
    refine (e1).mono ?_
    rintro e w2 ⟨rfl, b2⟩
    clear e1
    have a_2 := a_1.below b2
    clear a_1
    have b_2 := b_1.below b2
    clear b_1
    have F_2 := bthen F_1 b2
    have hno : ¬ (pairsB x = true ∧ pairsB y = true) := fun h => by rw [h.1] at ha; cases ha
    have hs := same_no hno
    have hu := unlike_no hno
    have HH := Lib.hid (And.intro hs hu)
    clear hno hs hu ha
    have e3 := samePairs_any A_a A_b x.length y.length c_a c_b x y w2 a_2.sl b_2.sl rfl rfl hma hmb
    rw [HH.out.1] at e3
    go_wp2_with fail
    refine (e3).mono ?_
    rintro e w3 ⟨rfl, b3⟩
    clear e3
    have a_3 := a_2.below b3
    clear a_2
    have b_3 := b_2.below b3
    clear b_2
    have F_3 := bthen F_2 b3
    have e4 := unlikeIn_any A_a A_b x.length y.length c_a c_b x y w3 a_3.sl b_3.sl rfl rfl hma hmb
    rw [HH.out.2] at e4
    go_wp2_with fail
    refine (e4).mono ?_
    rintro e w4 ⟨A_u, c_u, rfl, R_u, b4⟩
    clear e4
    have a_4 := a_3.below b4
    clear a_3
    have b_4 := b_3.below b4
    clear b_3
    have F_4 := bthen F_3 b4
    go_wp2
    go_ret
    exact ⟨rfl, F_4⟩
  | true =>
    rw [ha] at e1
    go_wp2_with fail
    refine (e1).mono ?_
    rintro e w2 ⟨rfl, b2⟩
    clear e1
    have a_2 := a_1.below b2
    clear a_1
    have b_2 := b_1.below b2
    clear b_1
    have F_2 := bthen F_1 b2
    have e2 := specPairsOk_any A_b y.length c_b y w2 b_2.sl rfl hmb
    cases hb : pairsB y with
    | false =>
      rw [hb] at e2
      go_wp2_with fail
      refine (e2).mono ?_
      rintro e w3 ⟨rfl, b3⟩
      clear e2
      have a_3 := a_2.below b3
      clear a_2
      have b_3 := b_2.below b3
      clear b_2
      have F_3 := bthen F_2 b3
      have hno : ¬ (pairsB x = true ∧ pairsB y = true) := fun h => by rw [h.2] at hb; cases hb
      have hs := same_no hno
      have hu := unlike_no hno
      have HH := Lib.hid (And.intro hs hu)
      clear hno hs hu hb
      have e3 := samePairs_any A_a A_b x.length y.length c_a c_b x y w3 a_3.sl b_3.sl rfl rfl hma hmb
      rw [HH.out.1] at e3
      go_wp2_with fail
      refine (e3).mono ?_
      rintro e w4 ⟨rfl, b4⟩
      clear e3
      have a_4 := a_3.below b4
      clear a_3
      have b_4 := b_3.below b4
      clear b_3
      have F_4 := bthen F_3 b4
      have e4 := unlikeIn_any A_a A_b x.length y.length c_a c_b x y w4 a_4.sl b_4.sl rfl rfl hma hmb
      rw [HH.out.2] at e4
      go_wp2_with fail
      refine (e4).mono ?_
      rintro e w5 ⟨A_u, c_u, rfl, R_u, b5⟩
      clear e4
      have a_5 := a_4.below b5
      clear a_4
      have b_5 := b_4.below b5
      clear b_4
      have F_5 := bthen F_4 b5
      go_wp2
      go_ret
      exact ⟨rfl, F_5⟩
    | true =>
      rw [hb] at e2
      go_wp2_with fail
      refine (e2).mono ?_
      rintro e w3 ⟨rfl, b3⟩
      clear e2
      have a_3 := a_2.below b3
      clear a_2
      have b_3 := b_2.below b3
      clear b_2
      have F_3 := bthen F_2 b3
      have hrl := pairsRowL_len x
      have hrl2 := pairsRowL_len y
      have H1 := Lib.hid (rows_back ha)
      have H2 := Lib.hid (unlike_eq ha hb)
      have H3 := Lib.hid (same_eq ha hb)
      have H4 := Lib.hid (rows_eq ha hb)
      have H5 : Hid (samePairsB x x = true) := by show samePairsB x x = true; rw [same_eq ha ha]; simp
      clear ha hb
      have e3 := pairsRow_any A_a x.length c_a x w3 a_3.sl rfl hma
      generalize pairsRowL x = P at e3 hrl H1 H4
      have hPm : P.length ≤ maxLen := by unfold maxLen; omega
      go_wp2_with fail
      refine (e3).mono ?_
      rintro e w4 ⟨A_p, c_p, rfl, R_p, b4⟩
      clear e3
      have L_a_p := a_3.lt
      have L_b_p := b_3.lt
      have G_p : w.heap.size ≤ w3.heap.size := F_3.size
      have a_4 := a_3.below b4
      clear a_3
      have b_4 := b_3.below b4
      clear b_3
      have F_4 := bthen F_3 b4
      have p_4 := R_p
      clear R_p
      have e4 := RowPairs_any A_p P.length c_p P w4 p_4.sl (by omega) p_4.cap_le.1 p_4.cap_le.2 p_4.lt
      rw [H1.out] at e4
      go_wp2_with fail
      refine (e4).mono ?_
      rintro e w5 ⟨A_k, c_k, rfl, R_k, b5⟩
      clear e4
      have L_a_k := a_4.lt
      have L_b_k := b_4.lt
      have L_p_k := p_4.lt
      have G_k : w.heap.size ≤ w4.heap.size := F_4.size
      have a_5 := a_4.below b5
      clear a_4
      have b_5 := b_4.below b5
      clear b_4
      have p_5 := p_4.below b5
      clear p_4
      have F_5 := bthen F_4 b5
      have k_5 := R_k
      clear R_k
      have e5 := pairsRow_any A_b y.length c_b y w5 b_5.sl rfl hmb
      generalize pairsRowL y = Q at e5 hrl2 H4
      have hQm : Q.length ≤ maxLen := by unfold maxLen; omega
      go_wp2_with fail
      refine (e5).mono ?_
      rintro e w6 ⟨A_q, c_q, rfl, R_q, b6⟩
      clear e5
      have L_a_q := a_5.lt
      have L_b_q := b_5.lt
      have L_p_q := p_5.lt
      have L_k_q := k_5.lt
      have G_q : w.heap.size ≤ w5.heap.size := F_5.size
      have a_6 := a_5.below b6
      clear a_5
      have b_6 := b_5.below b6
      clear b_5
      have p_6 := p_5.below b6
      clear p_5
      have k_6 := k_5.below b6
      clear k_5
      have F_6 := bthen F_5 b6
      have q_6 := R_q
      clear R_q
      cases hd : decide (x = y) with
      | true =>
        have e6 := likeInts_any A_p A_q P.length Q.length c_p c_q P Q w6 p_6.sl q_6.sl hPm hQm
        rw [H4.out, hd] at e6
        have J2 := H2.out
        have J3 := H3.out
        rw [hd] at J2 J3
        have H2 := Lib.hid J2
        have H3 := Lib.hid J3
        clear hd J2 J3 H4
        go_wp2_with fail
        refine (e6).mono ?_
        rintro e w7 ⟨rfl, b7⟩
        clear e6
        have a_7 := a_6.below b7
        clear a_6
        have b_7 := b_6.below b7
        clear b_6
        have p_7 := p_6.below b7
        clear p_6
        have k_7 := k_6.below b7
        clear k_6
        have q_7 := q_6.below b7
        clear q_6
        have F_7 := bthen F_6 b7
        have e7 := specSamePairs_any A_k A_a x.length x.length c_k c_a x x w7 k_7.sl a_7.sl rfl rfl hma hma
        rw [H5.out] at e7
        go_wp2_with fail
        refine (e7).mono ?_
        rintro e w8 ⟨rfl, b8⟩
        clear e7
        have a_8 := a_7.below b8
        clear a_7
        have b_8 := b_7.below b8
        clear b_7
        have p_8 := p_7.below b8
        clear p_7
        have k_8 := k_7.below b8
        clear k_7
        have q_8 := q_7.below b8
        clear q_7
        have F_8 := bthen F_7 b8
        have e8 := unlikeIn_any A_a A_b x.length y.length c_a c_b x y w8 a_8.sl b_8.sl rfl rfl hma hmb
        generalize unlikeL x y = U at e8 H2
        have hU : U = [] := List.eq_nil_of_length_eq_zero (of_decide_eq_true H2.out)
        subst hU
        clear H2
        go_wp2_with fail
        refine (e8).mono ?_
        rintro e w9 ⟨A_u, c_u, rfl, R_u, b9⟩
        clear e8
        have L_a_u := a_8.lt
        have L_b_u := b_8.lt
        have L_p_u := p_8.lt
        have L_k_u := k_8.lt
        have L_q_u := q_8.lt
        have G_u : w.heap.size ≤ w8.heap.size := F_8.size
        have a_9 := a_8.below b9
        clear a_8
        have b_9 := b_8.below b9
        clear b_8
        have p_9 := p_8.below b9
        clear p_8
        have k_9 := k_8.below b9
        clear k_8
        have q_9 := q_8.below b9
        clear q_8
        have F_9 := bthen F_8 b9
        have u_9 := R_u
        clear R_u
        have e9 := samePairs_any A_a A_b x.length y.length c_a c_b x y w9 a_9.sl b_9.sl rfl rfl hma hmb
        rw [H3.out] at e9
        go_wp2_with fail
        refine (e9).mono ?_
        rintro e w10 ⟨rfl, b10⟩
        clear e9
        have a_10 := a_9.below b10
        clear a_9
        have b_10 := b_9.below b10
        clear b_9
        have p_10 := p_9.below b10
        clear p_9
        have k_10 := k_9.below b10
        clear k_9
        have q_10 := q_9.below b10
        clear q_9
        have u_10 := u_9.below b10
        clear u_9
        have F_10 := bthen F_9 b10
        go_wp2
        go_ret
        exact ⟨ret_bool (by simp [*]), F_10⟩
      | false =>
        have e6 := likeInts_any A_p A_q P.length Q.length c_p c_q P Q w6 p_6.sl q_6.sl hPm hQm
        rw [H4.out, hd] at e6
        have J2 := H2.out
        have J3 := H3.out
        rw [hd] at J2 J3
        have H2 := Lib.hid J2
        have H3 := Lib.hid J3
        clear hd J2 J3 H4
        go_wp2_with fail
        refine (e6).mono ?_
        rintro e w7 ⟨rfl, b7⟩
        clear e6
        have a_7 := a_6.below b7
        clear a_6
        have b_7 := b_6.below b7
        clear b_6
        have p_7 := p_6.below b7
        clear p_6
        have k_7 := k_6.below b7
        clear k_6
        have q_7 := q_6.below b7
        clear q_6
        have F_7 := bthen F_6 b7
        have e7 := specSamePairs_any A_k A_a x.length x.length c_k c_a x x w7 k_7.sl a_7.sl rfl rfl hma hma
        rw [H5.out] at e7
        go_wp2_with fail
        refine (e7).mono ?_
        rintro e w8 ⟨rfl, b8⟩
        clear e7
        have a_8 := a_7.below b8
        clear a_7
        have b_8 := b_7.below b8
        clear b_7
        have p_8 := p_7.below b8
        clear p_7
        have k_8 := k_7.below b8
        clear k_7
        have q_8 := q_7.below b8
        clear q_7
        have F_8 := bthen F_7 b8
        have e8 := unlikeIn_any A_a A_b x.length y.length c_a c_b x y w8 a_8.sl b_8.sl rfl rfl hma hmb
        generalize unlikeL x y = U at e8 H2
        have hU : 0 < U.length := Nat.pos_of_ne_zero (of_decide_eq_false H2.out)
        have hU2 : ((U.length : Int) == 0) = false := by rw [beq_eq_false_iff_ne]; omega
        clear H2
        go_wp2_with fail
        refine (e8).mono ?_
        rintro e w9 ⟨A_u, c_u, rfl, R_u, b9⟩
        clear e8
        have L_a_u := a_8.lt
        have L_b_u := b_8.lt
        have L_p_u := p_8.lt
        have L_k_u := k_8.lt
        have L_q_u := q_8.lt
        have G_u : w.heap.size ≤ w8.heap.size := F_8.size
        have a_9 := a_8.below b9
        clear a_8
        have b_9 := b_8.below b9
        clear b_8
        have p_9 := p_8.below b9
        clear p_8
        have k_9 := k_8.below b9
        clear k_8
        have q_9 := q_8.below b9
        clear q_8
        have F_9 := bthen F_8 b9
        have u_9 := R_u
        clear R_u
        have e9 := samePairs_any A_a A_b x.length y.length c_a c_b x y w9 a_9.sl b_9.sl rfl rfl hma hmb
        rw [H3.out] at e9
        go_wp2_with fail
        refine (e9).mono ?_
        rintro e w10 ⟨rfl, b10⟩
        clear e9
        have a_10 := a_9.below b10
        clear a_9
        have b_10 := b_9.below b10
        clear b_9
        have p_10 := p_9.below b10
        clear p_9
        have k_10 := k_9.below b10
        clear k_9
        have q_10 := q_9.below b10
        clear q_9
        have u_10 := u_9.below b10
        clear u_9
        have F_10 := bthen F_9 b10
        go_wp2
        go_ret
        exact ⟨ret_bool (by simp [*]), F_10⟩
end Go.Proofs.Ytgpllffiahccjaa

/- The program's NumbersState. -/
import Derived.Test.YtodkcanhlpgpgaaN1
namespace Go.Proofs.Ytodkcanhlpgpgaa
set_option linter.unusedSimpArgs false
set_option linter.unusedVariables false
attribute [local go_sem] n_lt2 n_lt3 n_lt4 n_le2 n_le3
open Go.RowKit
attribute [local go_sem] Ext.cell Ext.frozen
set_option maxRecDepth 100000 in
set_option maxHeartbeats 8000000 in
theorem numbersState_any (A : Option Addr) (n cap : Nat) (zs : List Int) (w : World) (hS : Sl w 1 A n zs) (hn : n ≤ 1048576) (hc : n ≤ cap) (hcm : cap ≤ maxLen) (hlt : LtB A w.heap.size) :
    Calls Try.prog 30 #[.slice A n cap] w (RetStB w (numR zs).1 (numR zs).2) := by
  have HS := Lib.hid (fun (w' : World) (hB : Below w.heap.size w w') => hS.below hB)
  have hlen := hS.len
  have hlen' : zs.length = n := by omega
  have hnm : n ≤ maxLen := by unfold maxLen; omega
  by_cases h2 : n < 2
  · skip
    have hno : numR zs = (Stt.zero, false) := numR_shapeless (fun p q h => by
      have h1 := h.p10
      have h2 := h.q8
      have h3 := h.len
      have h4 := h.hp
      have h5 := h.hq
      omega)
    rw [hno]
    clear hno
    go_enter Try.func30, Try.ntmps30
    go_wp2_with fail
    refine calls_named ?_
    rintro w0 hw0
    have F_0 : Below w.heap.size w w0 := by rw [hw0]; (repeat' (first | (with_reducible exact Below.refl _ _) | (with_reducible assumption) | (with_reducible refine Below.alloc ?_ ?_ _) | (with_reducible refine Below.drew ?_) | (with_reducible refine Below.setCell ?_ ?_ _) | (with_reducible refine bstep (by assumption) ?_ ?_) | (with_reducible exact Nat.le_refl _) | omega | (simp [*]; done) | (simp [*]; omega)))
    have R_0 : Blk w0 w.heap.size 34 #[.int .i64 0, .int .i64 0, .slice none 0 0, .slice none 0 0, .int .i64 0, .int .i64 0, .int .i64 0] := by rw [hw0]; exact (Blk.new_at _ _ _ _ rfl).alloc _
    have K_0 : RCur w0 (w.heap.size + 1) 87 A n cap 0 := by rw [hw0]; exact Blk.new_at _ _ _ _ (by simp)
    clear hw0
    have z_0 : w.heap.size + 1 < w0.heap.size := K_0.blk.lt
    refine (take_no (w.heap.size + 1) n cap 0 A 2 w0 K_0 hnm (Nat.zero_le _) (by omega)).mono ?_
    rintro e w1 ⟨rfl, K_1, W1⟩
    have R_1 := R_0.wrote2 W1 (by omega)
    have F_1 := W1.below F_0 F_0.size (fun x hx => by obtain rfl := Option.some.inj hx; exact Nat.le_succ _)
    have z_1 := Nat.lt_of_lt_of_le z_0 W1.size
    clear R_0 F_0 K_0 W1
    have rRl := R_1.lt
    have rR0 := R_1.cell 0
    have rRz0 := R_1.frozen 0
    have rR1 := R_1.cell 1
    have rRz1 := R_1.frozen 1
    have rR2 := R_1.cell 2
    have rRz2 := R_1.frozen 2
    have rR3 := R_1.cell 3
    have rRz3 := R_1.frozen 3
    have rR4 := R_1.cell 4
    have rRz4 := R_1.frozen 4
    have rR5 := R_1.cell 5
    have rRz5 := R_1.frozen 5
    have rR6 := R_1.cell 6
    have rRz6 := R_1.frozen 6
    have hF := Lib.hid F_1
    go_wp2
    refine bodyPost_ret (v := .tuple #[.agg #[.int .i64 0, .int .i64 0, .slice none 0 0, .slice none 0 0, .int .i64 0, .int .i64 0, .int .i64 0], .bool false]) (by simp [results, Try.results30, go_sem, *]) rfl (retSt_nil (seven_below hF.out (Nat.le_refl _) _ _ _ _ _ _ _))
  obtain ⟨b, off, rfl, hb, _⟩ := hS.at_ (by omega)
  have hbp : b ≠ w.heap.size + 1 := by omega
  clear hlt hS
  by_cases hpy : 2 < n ∧ 0 ≤ zs.getD 2 0 ∧ zs.getD 2 0 ≤ 10 ∧ zs.getD 2 0 * 2 + 2 + 1 ≤ n
  rotate_left
  · skip
    have hno : numR zs = (Stt.zero, false) := numR_shapeless (fun p q h => by
      have h1 := h.p10
      have h2 := h.q8
      have h3 := h.len
      have h4 := h.hp
      have h5 := h.hq
      exact hpy ⟨by omega, by rw [h4]; omega, by rw [h4]; omega, by rw [h4]; omega⟩)
    rw [hno]
    clear hno
    go_enter Try.func30, Try.ntmps30
    go_wp2_with fail
    refine calls_named ?_
    rintro w0 hw0
    have F_0 : Below w.heap.size w w0 := by rw [hw0]; (repeat' (first | (with_reducible exact Below.refl _ _) | (with_reducible assumption) | (with_reducible refine Below.alloc ?_ ?_ _) | (with_reducible refine Below.drew ?_) | (with_reducible refine Below.setCell ?_ ?_ _) | (with_reducible refine bstep (by assumption) ?_ ?_) | (with_reducible exact Nat.le_refl _) | omega | (simp [*]; done) | (simp [*]; omega)))
    have R_0 : Blk w0 w.heap.size 34 #[.int .i64 0, .int .i64 0, .slice none 0 0, .slice none 0 0, .int .i64 0, .int .i64 0, .int .i64 0] := by rw [hw0]; exact (Blk.new_at _ _ _ _ rfl).alloc _
    have K_0 : RCur w0 (w.heap.size + 1) 87 (some ⟨b, off, none⟩) n cap 0 := by rw [hw0]; exact Blk.new_at _ _ _ _ (by simp)
    clear hw0
    have z_0 : w.heap.size + 1 < w0.heap.size := K_0.blk.lt
    refine (take_all (w.heap.size + 1) n cap 0 2 b off 2 zs w0 K_0 (HS.out w0 F_0) hn hc hcm (by omega) hbp rfl).mono ?_
    rintro e w1 ⟨A1, c1, rfl, N_U, K_1, W1⟩
    have R_1 := R_0.wrote2 W1 (by omega)
    have F_1 := W1.below F_0 F_0.size (fun x hx => by obtain rfl := Option.some.inj hx; exact Nat.le_succ _)
    have z_1 := Nat.lt_of_lt_of_le z_0 W1.size
    clear R_0 F_0 K_0 W1
    have U_1 := N_U
    clear N_U
    have y_U : w.heap.size + 1 < w0.heap.size := z_0
    go_wp2_with fail
    refine (takePairs_no (w.heap.size + 1) n cap 2 _ zs w1 K_1 (HS.out w1 F_1) hn hc hcm (by omega) (fun a ha => by injection ha with ha; subst ha; exact hbp) (fun h g => hpy ⟨h, g.1, g.2.1, by omega⟩)).mono ?_
    rintro e w2 ⟨A2, n2, c2, at2, rfl, _, K_2, W2⟩
    have R_2 := R_1.wrote2 W2 (by omega)
    have F_2 := W2.below F_1 F_1.size (fun x hx => by obtain rfl := Option.some.inj hx; exact Nat.le_succ _)
    have z_2 := Nat.lt_of_lt_of_le z_1 W2.size
    have U_2 := rowp' U_1 W2 y_U
    clear R_1 F_1 K_1 W2 U_1
    have rRl := R_2.lt
    have rR0 := R_2.cell 0
    have rRz0 := R_2.frozen 0
    have rR1 := R_2.cell 1
    have rRz1 := R_2.frozen 1
    have rR2 := R_2.cell 2
    have rRz2 := R_2.frozen 2
    have rR3 := R_2.cell 3
    have rRz3 := R_2.frozen 3
    have rR4 := R_2.cell 4
    have rRz4 := R_2.frozen 4
    have rR5 := R_2.cell 5
    have rRz5 := R_2.frozen 5
    have rR6 := R_2.cell 6
    have rRz6 := R_2.frozen 6
    have hF := Lib.hid F_2
    go_wp2
    refine bodyPost_ret (v := .tuple #[.agg #[.int .i64 0, .int .i64 0, .slice none 0 0, .slice none 0 0, .int .i64 0, .int .i64 0, .int .i64 0], .bool false]) (by simp [results, Try.results30, go_sem, *]) rfl (retSt_nil (seven_below hF.out (Nat.le_refl _) _ _ _ _ _ _ _))
  obtain ⟨hp2, hp0, hp10, hpf⟩ := hpy
  obtain ⟨p, hp⟩ : ∃ p : Nat, zs.getD 2 0 = (p : Int) := ⟨_, (Int.toNat_of_nonneg hp0).symm⟩
  rw [hp] at hp0 hp10 hpf
  have hp10' : p ≤ 10 := by omega
  have hfit : 2 + 1 + 2 * p ≤ n := by omega
  obtain ⟨pl, hpl, hps⟩ := PR_of p ((zs.drop (2 + 1)).take (2 * p)) (by simp; omega)
  obtain ⟨at1, hat1⟩ : ∃ x, x = 2 + 1 + 2 * p := ⟨_, rfl⟩
  have HPS := Lib.hid (And.intro hpl hps.symm)
  clear hps
  have HP := Lib.hid hp
  clear hp hp0 hp10 hpf
  by_cases hqy : at1 < n ∧ 0 ≤ zs.getD at1 0 ∧ zs.getD at1 0 ≤ 8 ∧ zs.getD at1 0 * 5 + at1 + 1 ≤ n
  rotate_left
  · skip
    have hno : numR zs = (Stt.zero, false) := numR_shapeless (fun p5 q5 h => by
      have h2 := h.q8
      have h3 := h.len
      have h4 := h.hp
      have h5 := h.hq
      have h6 := HP.out
      have h7 : p5 = p := by omega
      rw [h7] at h3 h5
      rw [show 3 + 2 * p = at1 by omega] at h5
      exact hqy ⟨by omega, by rw [h5]; omega, by rw [h5]; omega, by rw [h5]; omega⟩)
    rw [hno]
    clear hno
    go_enter Try.func30, Try.ntmps30
    go_wp2_with fail
    refine calls_named ?_
    rintro w0 hw0
    have F_0 : Below w.heap.size w w0 := by rw [hw0]; (repeat' (first | (with_reducible exact Below.refl _ _) | (with_reducible assumption) | (with_reducible refine Below.alloc ?_ ?_ _) | (with_reducible refine Below.drew ?_) | (with_reducible refine Below.setCell ?_ ?_ _) | (with_reducible refine bstep (by assumption) ?_ ?_) | (with_reducible exact Nat.le_refl _) | omega | (simp [*]; done) | (simp [*]; omega)))
    have R_0 : Blk w0 w.heap.size 34 #[.int .i64 0, .int .i64 0, .slice none 0 0, .slice none 0 0, .int .i64 0, .int .i64 0, .int .i64 0] := by rw [hw0]; exact (Blk.new_at _ _ _ _ rfl).alloc _
    have K_0 : RCur w0 (w.heap.size + 1) 87 (some ⟨b, off, none⟩) n cap 0 := by rw [hw0]; exact Blk.new_at _ _ _ _ (by simp)
    clear hw0
    have z_0 : w.heap.size + 1 < w0.heap.size := K_0.blk.lt
    refine (take_all (w.heap.size + 1) n cap 0 2 b off 2 zs w0 K_0 (HS.out w0 F_0) hn hc hcm (by omega) hbp rfl).mono ?_
    rintro e w1 ⟨A1, c1, rfl, N_U, K_1, W1⟩
    have R_1 := R_0.wrote2 W1 (by omega)
    have F_1 := W1.below F_0 F_0.size (fun x hx => by obtain rfl := Option.some.inj hx; exact Nat.le_succ _)
    have z_1 := Nat.lt_of_lt_of_le z_0 W1.size
    clear R_0 F_0 K_0 W1
    have U_1 := N_U
    clear N_U
    have y_U : w.heap.size + 1 < w0.heap.size := z_0
    go_wp2_with fail
    refine (takePairs_yes (w.heap.size + 1) n cap 2 p b off zs pl w1 K_1 (HS.out w1 F_1) hn hc hcm hbp hp10' HP.out hfit HPS.out.1 HPS.out.2).mono ?_
    rintro e w2 ⟨A2, c2, rfl, N_P, K_2, W2⟩
    have R_2 := R_1.wrote2 W2 (by omega)
    have F_2 := W2.below F_1 F_1.size (fun x hx => by obtain rfl := Option.some.inj hx; exact Nat.le_succ _)
    have z_2 := Nat.lt_of_lt_of_le z_1 W2.size
    have U_2 := rowp' U_1 W2 y_U
    clear R_1 F_1 K_1 W2 U_1
    have P_2 := N_P
    clear N_P
    have y_P : w.heap.size + 1 < w1.heap.size := z_1
    rw [← hat1] at K_2
    have LPQ := Lib.hid P_2.lt
    go_wp2_with fail
    refine (takeJobs_no (w.heap.size + 1) n cap at1 _ zs w2 K_2 (HS.out w2 F_2) hn hc hcm (by omega) (fun a ha => by injection ha with ha; subst ha; exact hbp) (fun h g => hqy ⟨h, g.1, g.2.1, by omega⟩)).mono ?_
    rintro e w3 ⟨A3, n3, c3, at3, rfl, _, K_3, W3⟩
    have R_3 := R_2.wrote2 W3 (by omega)
    have F_3 := W3.below F_2 F_2.size (fun x hx => by obtain rfl := Option.some.inj hx; exact Nat.le_succ _)
    have z_3 := Nat.lt_of_lt_of_le z_2 W3.size
    have U_3 := rowp' U_2 W3 y_U
    have P_3 := rowp' P_2 W3 y_P
    clear R_2 F_2 K_2 W3 U_2 P_2
    have rRl := R_3.lt
    have rR0 := R_3.cell 0
    have rRz0 := R_3.frozen 0
    have rR1 := R_3.cell 1
    have rRz1 := R_3.frozen 1
    have rR2 := R_3.cell 2
    have rRz2 := R_3.frozen 2
    have rR3 := R_3.cell 3
    have rRz3 := R_3.frozen 3
    have rR4 := R_3.cell 4
    have rRz4 := R_3.frozen 4
    have rR5 := R_3.cell 5
    have rRz5 := R_3.frozen 5
    have rR6 := R_3.cell 6
    have rRz6 := R_3.frozen 6
    have hF := Lib.hid F_3
    go_wp2
    refine bodyPost_ret (v := .tuple #[.agg #[.int .i64 0, .int .i64 0, .slice none 0 0, .slice none 0 0, .int .i64 0, .int .i64 0, .int .i64 0], .bool false]) (by simp [results, Try.results30, go_sem, *]) rfl (retSt_nil (seven_below hF.out (Nat.le_refl _) _ _ _ _ _ _ _))
  obtain ⟨hq2, hq0, hq8, hqf⟩ := hqy
  obtain ⟨q, hq⟩ : ∃ q : Nat, zs.getD at1 0 = (q : Int) := ⟨_, (Int.toNat_of_nonneg hq0).symm⟩
  rw [hq] at hq0 hq8 hqf
  have hq8' : q ≤ 8 := by omega
  have hfit2 : at1 + 1 + 5 * q ≤ n := by omega
  obtain ⟨ql, hql, hqs⟩ := JB_of q ((zs.drop (at1 + 1)).take (5 * q)) (by simp; omega)
  obtain ⟨at2, hat2⟩ : ∃ x, x = at1 + 1 + 5 * q := ⟨_, rfl⟩
  have HQS := Lib.hid (And.intro hql hqs.symm)
  clear hqs
  have HQ := Lib.hid hq
  clear hq hq0 hq8 hqf
  by_cases h3 : n < at2 + 3
  · skip
    have hno : numR zs = (Stt.zero, false) := numR_shapeless (fun p5 q5 h => by
      have h3 := h.len
      have h4 := h.hp
      have h5 := h.hq
      have h6 := HP.out
      have h7 : p5 = p := by omega
      subst h7
      have h8 := HQ.out
      rw [show 3 + 2 * p5 = at1 by omega] at h5
      omega)
    rw [hno]
    clear hno
    go_enter Try.func30, Try.ntmps30
    go_wp2_with fail
    refine calls_named ?_
    rintro w0 hw0
    have F_0 : Below w.heap.size w w0 := by rw [hw0]; (repeat' (first | (with_reducible exact Below.refl _ _) | (with_reducible assumption) | (with_reducible refine Below.alloc ?_ ?_ _) | (with_reducible refine Below.drew ?_) | (with_reducible refine Below.setCell ?_ ?_ _) | (with_reducible refine bstep (by assumption) ?_ ?_) | (with_reducible exact Nat.le_refl _) | omega | (simp [*]; done) | (simp [*]; omega)))
    have R_0 : Blk w0 w.heap.size 34 #[.int .i64 0, .int .i64 0, .slice none 0 0, .slice none 0 0, .int .i64 0, .int .i64 0, .int .i64 0] := by rw [hw0]; exact (Blk.new_at _ _ _ _ rfl).alloc _
    have K_0 : RCur w0 (w.heap.size + 1) 87 (some ⟨b, off, none⟩) n cap 0 := by rw [hw0]; exact Blk.new_at _ _ _ _ (by simp)
    clear hw0
    have z_0 : w.heap.size + 1 < w0.heap.size := K_0.blk.lt
    refine (take_all (w.heap.size + 1) n cap 0 2 b off 2 zs w0 K_0 (HS.out w0 F_0) hn hc hcm (by omega) hbp rfl).mono ?_
    rintro e w1 ⟨A1, c1, rfl, N_U, K_1, W1⟩
    have R_1 := R_0.wrote2 W1 (by omega)
    have F_1 := W1.below F_0 F_0.size (fun x hx => by obtain rfl := Option.some.inj hx; exact Nat.le_succ _)
    have z_1 := Nat.lt_of_lt_of_le z_0 W1.size
    clear R_0 F_0 K_0 W1
    have U_1 := N_U
    clear N_U
    have y_U : w.heap.size + 1 < w0.heap.size := z_0
    go_wp2_with fail
    refine (takePairs_yes (w.heap.size + 1) n cap 2 p b off zs pl w1 K_1 (HS.out w1 F_1) hn hc hcm hbp hp10' HP.out hfit HPS.out.1 HPS.out.2).mono ?_
    rintro e w2 ⟨A2, c2, rfl, N_P, K_2, W2⟩
    have R_2 := R_1.wrote2 W2 (by omega)
    have F_2 := W2.below F_1 F_1.size (fun x hx => by obtain rfl := Option.some.inj hx; exact Nat.le_succ _)
    have z_2 := Nat.lt_of_lt_of_le z_1 W2.size
    have U_2 := rowp' U_1 W2 y_U
    clear R_1 F_1 K_1 W2 U_1
    have P_2 := N_P
    clear N_P
    have y_P : w.heap.size + 1 < w1.heap.size := z_1
    rw [← hat1] at K_2
    have LPQ := Lib.hid P_2.lt
    go_wp2_with fail
    refine (takeJobs_yes (w.heap.size + 1) n cap at1 q b off zs ql w2 K_2 (HS.out w2 F_2) hn hc hcm hbp hq8' HQ.out hfit2 HQS.out.1 HQS.out.2).mono ?_
    rintro e w3 ⟨A3, c3, rfl, N_Q, K_3, W3⟩
    have R_3 := R_2.wrote2 W3 (by omega)
    have F_3 := W3.below F_2 F_2.size (fun x hx => by obtain rfl := Option.some.inj hx; exact Nat.le_succ _)
    have z_3 := Nat.lt_of_lt_of_le z_2 W3.size
    have U_3 := rowp' U_2 W3 y_U
    have P_3 := rowp' P_2 W3 y_P
    clear R_2 F_2 K_2 W3 U_2 P_2
    have Q_3 := N_Q
    clear N_Q
    have y_Q : w.heap.size + 1 < w2.heap.size := z_2
    rw [← hat2] at K_3
    go_wp2_with fail
    refine (take_no (w.heap.size + 1) n cap at2 _ 3 w3 K_3 hnm (by omega) (by omega)).mono ?_
    rintro e w4 ⟨rfl, K_4, W4⟩
    have R_4 := R_3.wrote2 W4 (by omega)
    have F_4 := W4.below F_3 F_3.size (fun x hx => by obtain rfl := Option.some.inj hx; exact Nat.le_succ _)
    have z_4 := Nat.lt_of_lt_of_le z_3 W4.size
    have U_4 := rowp' U_3 W4 y_U
    have P_4 := rowp' P_3 W4 y_P
    have Q_4 := rowp' Q_3 W4 y_Q
    clear R_3 F_3 K_3 W4 U_3 P_3 Q_3
    have rRl := R_4.lt
    have rR0 := R_4.cell 0
    have rRz0 := R_4.frozen 0
    have rR1 := R_4.cell 1
    have rRz1 := R_4.frozen 1
    have rR2 := R_4.cell 2
    have rRz2 := R_4.frozen 2
    have rR3 := R_4.cell 3
    have rRz3 := R_4.frozen 3
    have rR4 := R_4.cell 4
    have rRz4 := R_4.frozen 4
    have rR5 := R_4.cell 5
    have rRz5 := R_4.frozen 5
    have rR6 := R_4.cell 6
    have rRz6 := R_4.frozen 6
    have hF := Lib.hid F_4
    go_wp2
    refine bodyPost_ret (v := .tuple #[.agg #[.int .i64 0, .int .i64 0, .slice none 0 0, .slice none 0 0, .int .i64 0, .int .i64 0, .int .i64 0], .bool false]) (by simp [results, Try.results30, go_sem, *]) rfl (retSt_nil (seven_below hF.out (Nat.le_refl _) _ _ _ _ _ _ _))
  by_cases he : at2 + 3 = n
  rotate_left
  · skip
    have hno : numR zs = (Stt.zero, false) := numR_shapeless (fun p5 q5 h => by
      have h3 := h.len
      have h4 := h.hp
      have h5 := h.hq
      have h6 := HP.out
      have h7 : p5 = p := by omega
      subst h7
      have h8 := HQ.out
      rw [show 3 + 2 * p5 = at1 by omega] at h5
      omega)
    rw [hno]
    clear hno
    go_enter Try.func30, Try.ntmps30
    go_wp2_with fail
    refine calls_named ?_
    rintro w0 hw0
    have F_0 : Below w.heap.size w w0 := by rw [hw0]; (repeat' (first | (with_reducible exact Below.refl _ _) | (with_reducible assumption) | (with_reducible refine Below.alloc ?_ ?_ _) | (with_reducible refine Below.drew ?_) | (with_reducible refine Below.setCell ?_ ?_ _) | (with_reducible refine bstep (by assumption) ?_ ?_) | (with_reducible exact Nat.le_refl _) | omega | (simp [*]; done) | (simp [*]; omega)))
    have R_0 : Blk w0 w.heap.size 34 #[.int .i64 0, .int .i64 0, .slice none 0 0, .slice none 0 0, .int .i64 0, .int .i64 0, .int .i64 0] := by rw [hw0]; exact (Blk.new_at _ _ _ _ rfl).alloc _
    have K_0 : RCur w0 (w.heap.size + 1) 87 (some ⟨b, off, none⟩) n cap 0 := by rw [hw0]; exact Blk.new_at _ _ _ _ (by simp)
    clear hw0
    have z_0 : w.heap.size + 1 < w0.heap.size := K_0.blk.lt
    refine (take_all (w.heap.size + 1) n cap 0 2 b off 2 zs w0 K_0 (HS.out w0 F_0) hn hc hcm (by omega) hbp rfl).mono ?_
    rintro e w1 ⟨A1, c1, rfl, N_U, K_1, W1⟩
    have R_1 := R_0.wrote2 W1 (by omega)
    have F_1 := W1.below F_0 F_0.size (fun x hx => by obtain rfl := Option.some.inj hx; exact Nat.le_succ _)
    have z_1 := Nat.lt_of_lt_of_le z_0 W1.size
    clear R_0 F_0 K_0 W1
    have U_1 := N_U
    clear N_U
    have y_U : w.heap.size + 1 < w0.heap.size := z_0
    go_wp2_with fail
    refine (takePairs_yes (w.heap.size + 1) n cap 2 p b off zs pl w1 K_1 (HS.out w1 F_1) hn hc hcm hbp hp10' HP.out hfit HPS.out.1 HPS.out.2).mono ?_
    rintro e w2 ⟨A2, c2, rfl, N_P, K_2, W2⟩
    have R_2 := R_1.wrote2 W2 (by omega)
    have F_2 := W2.below F_1 F_1.size (fun x hx => by obtain rfl := Option.some.inj hx; exact Nat.le_succ _)
    have z_2 := Nat.lt_of_lt_of_le z_1 W2.size
    have U_2 := rowp' U_1 W2 y_U
    clear R_1 F_1 K_1 W2 U_1
    have P_2 := N_P
    clear N_P
    have y_P : w.heap.size + 1 < w1.heap.size := z_1
    rw [← hat1] at K_2
    have LPQ := Lib.hid P_2.lt
    go_wp2_with fail
    refine (takeJobs_yes (w.heap.size + 1) n cap at1 q b off zs ql w2 K_2 (HS.out w2 F_2) hn hc hcm hbp hq8' HQ.out hfit2 HQS.out.1 HQS.out.2).mono ?_
    rintro e w3 ⟨A3, c3, rfl, N_Q, K_3, W3⟩
    have R_3 := R_2.wrote2 W3 (by omega)
    have F_3 := W3.below F_2 F_2.size (fun x hx => by obtain rfl := Option.some.inj hx; exact Nat.le_succ _)
    have z_3 := Nat.lt_of_lt_of_le z_2 W3.size
    have U_3 := rowp' U_2 W3 y_U
    have P_3 := rowp' P_2 W3 y_P
    clear R_2 F_2 K_2 W3 U_2 P_2
    have Q_3 := N_Q
    clear N_Q
    have y_Q : w.heap.size + 1 < w2.heap.size := z_2
    rw [← hat2] at K_3
    go_wp2_with fail
    refine (take_all (w.heap.size + 1) n cap at2 3 b off 3 zs w3 K_3 (HS.out w3 F_3) hn hc hcm (by omega) hbp rfl).mono ?_
    rintro e w4 ⟨A4, c4, rfl, N_V, K_4, W4⟩
    have R_4 := R_3.wrote2 W4 (by omega)
    have F_4 := W4.below F_3 F_3.size (fun x hx => by obtain rfl := Option.some.inj hx; exact Nat.le_succ _)
    have z_4 := Nat.lt_of_lt_of_le z_3 W4.size
    have U_4 := rowp' U_3 W4 y_U
    have P_4 := rowp' P_3 W4 y_P
    have Q_4 := rowp' Q_3 W4 y_Q
    clear R_3 F_3 K_3 W4 U_3 P_3 Q_3
    have V_4 := N_V
    clear N_V
    have y_V : w.heap.size + 1 < w3.heap.size := z_3
    have c5 := done_any (w.heap.size + 1) n cap (at2 + 3) _ w4 K_4 hnm (by omega)
    rw [decide_eq_false he] at c5
    go_wp2_with fail
    refine (c5).mono ?_
    rintro e w5 ⟨rfl, K_5, b5⟩
    have R_5 := R_4.below b5
    have F_5 := bthen F_4 b5
    have z_5 := Nat.lt_of_lt_of_le z_4 b5.size
    have U_5 := U_4.below b5
    have P_5 := P_4.below b5
    have Q_5 := Q_4.below b5
    have V_5 := V_4.below b5
    clear R_4 F_4 U_4 P_4 Q_4 V_4
    have rRl := R_5.lt
    have rR0 := R_5.cell 0
    have rRz0 := R_5.frozen 0
    have rR1 := R_5.cell 1
    have rRz1 := R_5.frozen 1
    have rR2 := R_5.cell 2
    have rRz2 := R_5.frozen 2
    have rR3 := R_5.cell 3
    have rRz3 := R_5.frozen 3
    have rR4 := R_5.cell 4
    have rRz4 := R_5.frozen 4
    have rR5 := R_5.cell 5
    have rRz5 := R_5.frozen 5
    have rR6 := R_5.cell 6
    have rRz6 := R_5.frozen 6
    have hF := Lib.hid F_5
    go_wp2
    refine bodyPost_ret (v := .tuple #[.agg #[.int .i64 0, .int .i64 0, .slice none 0 0, .slice none 0 0, .int .i64 0, .int .i64 0, .int .i64 0], .bool false]) (by simp [results, Try.results30, go_sem, *]) rfl (retSt_nil (seven_below hF.out (Nat.le_refl _) _ _ _ _ _ _ _))
  have hsh : Shape zs p q := ⟨hp10', hq8', by omega, HP.out, by rw [show 3 + 2 * p = at1 by omega]; exact HQ.out⟩
  obtain ⟨s, hs1, hs2, hs3, hs4, hs5, hs6, hs7, hs8⟩ := shape_row hsh
  have hnr := numR_at hs1
  have hpe : s.p = pl := PR_inj (by rw [← hs6, HPS.out.2.symm.trans rfl])
  have hqe : s.q = ql := JB_inj (by rw [← hs7, show 4 + 2 * p = at1 + 1 by omega]; exact HQS.out.2)
  obtain ⟨si, st, sp, sq, sh, se, su⟩ := s
  simp only at hpe hqe hs4 hs5 hs8
  replace hpe := hpe.symm
  replace hqe := hqe.symm
  subst hpe hqe
  have hd0 : (zs.drop 0).take 2 = [si, st] := by
    have h0 : 0 < zs.length := by omega
    have h1 : 0 + 1 < zs.length := by omega
    rw [drop_cons h0, drop_cons h1, hs4, hs5]
    rfl
  have hd3 : (zs.drop at2).take 3 = [sh, se, su] := by rw [show at2 = 4 + 2 * p + 5 * q by omega, hs8]; rfl
  obtain ⟨ok, hok⟩ : ∃ x, stOk ⟨si, st, pl, ql, sh, se, su⟩ = x := ⟨_, rfl⟩
  rw [hok] at hnr
  have hst : stateB si st sh se su pl ql = ok := hok
  have HST := Lib.hid hst
  have HD := Lib.hid (And.intro hd0 hd3)
  generalize numR zs = r at hnr ⊢
  have HNR := Lib.hid hnr
  clear hnr hs1 hs2 hs3 hs4 hs5 hs6 hs7 hs8 hsh hok hst hd0 hd3
  go_enter Try.func30, Try.ntmps30
  go_wp2_with fail
  refine calls_named ?_
  rintro w0 hw0
  have F_0 : Below w.heap.size w w0 := by rw [hw0]; (repeat' (first | (with_reducible exact Below.refl _ _) | (with_reducible assumption) | (with_reducible refine Below.alloc ?_ ?_ _) | (with_reducible refine Below.drew ?_) | (with_reducible refine Below.setCell ?_ ?_ _) | (with_reducible refine bstep (by assumption) ?_ ?_) | (with_reducible exact Nat.le_refl _) | omega | (simp [*]; done) | (simp [*]; omega)))
  have R_0 : Blk w0 w.heap.size 34 #[.int .i64 0, .int .i64 0, .slice none 0 0, .slice none 0 0, .int .i64 0, .int .i64 0, .int .i64 0] := by rw [hw0]; exact (Blk.new_at _ _ _ _ rfl).alloc _
  have K_0 : RCur w0 (w.heap.size + 1) 87 (some ⟨b, off, none⟩) n cap 0 := by rw [hw0]; exact Blk.new_at _ _ _ _ (by simp)
  clear hw0
  have z_0 : w.heap.size + 1 < w0.heap.size := K_0.blk.lt
  refine (take_all (w.heap.size + 1) n cap 0 2 b off 2 zs w0 K_0 (HS.out w0 F_0) hn hc hcm (by omega) hbp rfl).mono ?_
  rintro e w1 ⟨A1, c1, rfl, N_U, K_1, W1⟩
  have R_1 := R_0.wrote2 W1 (by omega)
  have F_1 := W1.below F_0 F_0.size (fun x hx => by obtain rfl := Option.some.inj hx; exact Nat.le_succ _)
  have z_1 := Nat.lt_of_lt_of_le z_0 W1.size
  clear R_0 F_0 K_0 W1
  have U_1 := N_U
  clear N_U
  have y_U : w.heap.size + 1 < w0.heap.size := z_0
  go_wp2_with fail
  refine (takePairs_yes (w.heap.size + 1) n cap 2 p b off zs pl w1 K_1 (HS.out w1 F_1) hn hc hcm hbp hp10' HP.out hfit HPS.out.1 HPS.out.2).mono ?_
  rintro e w2 ⟨A2, c2, rfl, N_P, K_2, W2⟩
  have R_2 := R_1.wrote2 W2 (by omega)
  have F_2 := W2.below F_1 F_1.size (fun x hx => by obtain rfl := Option.some.inj hx; exact Nat.le_succ _)
  have z_2 := Nat.lt_of_lt_of_le z_1 W2.size
  have U_2 := rowp' U_1 W2 y_U
  clear R_1 F_1 K_1 W2 U_1
  have P_2 := N_P
  clear N_P
  have y_P : w.heap.size + 1 < w1.heap.size := z_1
  rw [← hat1] at K_2
  have LPQ := Lib.hid P_2.lt
  go_wp2_with fail
  refine (takeJobs_yes (w.heap.size + 1) n cap at1 q b off zs ql w2 K_2 (HS.out w2 F_2) hn hc hcm hbp hq8' HQ.out hfit2 HQS.out.1 HQS.out.2).mono ?_
  rintro e w3 ⟨A3, c3, rfl, N_Q, K_3, W3⟩
  have R_3 := R_2.wrote2 W3 (by omega)
  have F_3 := W3.below F_2 F_2.size (fun x hx => by obtain rfl := Option.some.inj hx; exact Nat.le_succ _)
  have z_3 := Nat.lt_of_lt_of_le z_2 W3.size
  have U_3 := rowp' U_2 W3 y_U
  have P_3 := rowp' P_2 W3 y_P
  clear R_2 F_2 K_2 W3 U_2 P_2
  have Q_3 := N_Q
  clear N_Q
  have y_Q : w.heap.size + 1 < w2.heap.size := z_2
  rw [← hat2] at K_3
  go_wp2_with fail
  refine (take_all (w.heap.size + 1) n cap at2 3 b off 3 zs w3 K_3 (HS.out w3 F_3) hn hc hcm (by omega) hbp rfl).mono ?_
  rintro e w4 ⟨A4, c4, rfl, N_V, K_4, W4⟩
  have R_4 := R_3.wrote2 W4 (by omega)
  have F_4 := W4.below F_3 F_3.size (fun x hx => by obtain rfl := Option.some.inj hx; exact Nat.le_succ _)
  have z_4 := Nat.lt_of_lt_of_le z_3 W4.size
  have U_4 := rowp' U_3 W4 y_U
  have P_4 := rowp' P_3 W4 y_P
  have Q_4 := rowp' Q_3 W4 y_Q
  clear R_3 F_3 K_3 W4 U_3 P_3 Q_3
  have V_4 := N_V
  clear N_V
  have y_V : w.heap.size + 1 < w3.heap.size := z_3
  have c5 := done_any (w.heap.size + 1) n cap (at2 + 3) _ w4 K_4 hnm (by omega)
  rw [decide_eq_true he] at c5
  go_wp2_with fail
  refine (c5).mono ?_
  rintro e w5 ⟨rfl, K_5, b5⟩
  have R_5 := R_4.below b5
  have F_5 := bthen F_4 b5
  have z_5 := Nat.lt_of_lt_of_le z_4 b5.size
  have U_5 := U_4.below b5
  have P_5 := P_4.below b5
  have Q_5 := Q_4.below b5
  have V_5 := V_4.below b5
  clear R_4 F_4 U_4 P_4 Q_4 V_4
  rw [HD.out.1] at U_5
  rw [HD.out.2] at V_5
  obtain ⟨bU, oU, hAU, lU, cU⟩ := row1_at U_5 (by omega)
  obtain ⟨bV, oV, hAV, lV, cV⟩ := row1_at V_5 (by omega)
  subst hAU hAV
  have u0 : w5.cell? ⟨bU, oU, none⟩ = some (.int .i64 si) := cU 0 (by omega)
  have u1 : w5.cell? ⟨bU, oU + 1, none⟩ = some (.int .i64 st) := cU 1 (by omega)
  have v0 : w5.cell? ⟨bV, oV, none⟩ = some (.int .i64 sh) := cV 0 (by omega)
  have v1 : w5.cell? ⟨bV, oV + 1, none⟩ = some (.int .i64 se) := cV 1 (by omega)
  have v2 : w5.cell? ⟨bV, oV + 2, none⟩ = some (.int .i64 su) := cV 2 (by omega)
  clear cU cV
  go_wp2_with fail
  go_region
  clear u0 u1 v0 v1 v2 lU lV
  clear U_5 V_5
  go_wp2_with fail
  refine calls_named ?_
  rintro w6 hw6
  have R_6 : Blk w6 w.heap.size 34 #[.int .i64 0, .int .i64 0, .slice none 0 0, .slice none 0 0, .int .i64 0, .int .i64 0, .int .i64 0] := by rw [hw6]; exact Blk.drew (R_5.alloc _)
  have S_6 : Blk w6 w5.heap.size 34 #[.int .i64 si, .int .i64 st, .slice A2 p c2, .slice A3 q c3, .int .i64 sh, .int .i64 se, .int .i64 su] := by rw [hw6]; exact Blk.drew (Blk.new_at _ _ _ _ rfl)
  have F_6 : Below w.heap.size w w6 := by rw [hw6]; exact (F_5.alloc F_5.size _).drew
  have P_6 : Row w6 w1.heap.size 114 2 A2 p c2 (PR pl) := by rw [hw6]; exact (P_5.alloc _).drew
  have Q_6 : Row w6 w2.heap.size 70 5 A3 q c3 (JB ql) := by rw [hw6]; exact (Q_5.alloc _).drew
  have lP := P_5.lt
  have hz5 : w.heap.size < w5.heap.size := R_5.lt
  clear hw6 R_5 F_5 P_5 Q_5
  have c7 := stateOk_any A2 p c2 A3 q c3 si st sh se su pl ql w6 P_6.sl Q_6.sl hpl hql (by unfold maxLen; omega) (by unfold maxLen; omega)
  rw [HST.out] at c7
  refine c7.mono ?_
  rintro e w7 ⟨rfl, b7⟩
  have R_7 := R_6.below b7
  have S_7 := S_6.below b7
  have F_7 := bthen F_6 b7
  have P_7 := P_6.below b7
  have Q_7 := Q_6.below b7
  clear c7 R_6 S_6 F_6 P_6 Q_6
  cases ok with
  | false =>
    have e0 := HNR.out
    simp only [Bool.false_eq_true, if_false] at e0
    subst e0
    have rRl := R_7.lt
    have rR0 := R_7.cell 0
    have rRz0 := R_7.frozen 0
    have rR1 := R_7.cell 1
    have rRz1 := R_7.frozen 1
    have rR2 := R_7.cell 2
    have rRz2 := R_7.frozen 2
    have rR3 := R_7.cell 3
    have rRz3 := R_7.frozen 3
    have rR4 := R_7.cell 4
    have rRz4 := R_7.frozen 4
    have rR5 := R_7.cell 5
    have rRz5 := R_7.frozen 5
    have rR6 := R_7.cell 6
    have rRz6 := R_7.frozen 6
    have hF := Lib.hid F_7
    go_wp2
    refine bodyPost_ret (v := .tuple #[.agg #[.int .i64 0, .int .i64 0, .slice none 0 0, .slice none 0 0, .int .i64 0, .int .i64 0, .int .i64 0], .bool false]) (by simp [results, Try.results30, go_sem, *]) rfl (retSt_nil (seven_below hF.out (Nat.le_refl _) _ _ _ _ _ _ _))
  | true =>
    have e0 := HNR.out
    simp only [if_true] at e0
    subst e0
    have rSl := S_7.lt
    have rS0 := S_7.cell 0
    have rS1 := S_7.cell 1
    have rS2 := S_7.cell 2
    have rS3 := S_7.cell 3
    have rS4 := S_7.cell 4
    have rS5 := S_7.cell 5
    have rS6 := S_7.cell 6
    have rRl := R_7.lt
    have rR0 := R_7.cell 0
    have rRz0 := R_7.frozen 0
    have rR1 := R_7.cell 1
    have rRz1 := R_7.frozen 1
    have rR2 := R_7.cell 2
    have rRz2 := R_7.frozen 2
    have rR3 := R_7.cell 3
    have rRz3 := R_7.frozen 3
    have rR4 := R_7.cell 4
    have rRz4 := R_7.frozen 4
    have rR5 := R_7.cell 5
    have rRz5 := R_7.frozen 5
    have rR6 := R_7.cell 6
    have rRz6 := R_7.frozen 6
    have hneP : ∀ a, A2 = some a → a.block ≠ w.heap.size := fun a ha => by have := P_7.ge a ha; omega
    have hneQ : ∀ a, A3 = some a → a.block ≠ w.heap.size := fun a ha => by have := Q_7.ge a ha; omega
    have hap : ∀ a b, A2 = some a → A3 = some b → a.block ≠ b.block := fun a b ha hb => by have h1 := LPQ.out a ha; have h2 := Q_7.ge b hb; omega
    have HX := Lib.hid (And.intro (And.intro hneP hneQ) (And.intro hap F_7))
    have HPX := Lib.hid (P_7.mono (show w.heap.size ≤ w1.heap.size by omega))
    have HQX := Lib.hid (Q_7.mono (show w.heap.size ≤ w2.heap.size by omega))
    clear hneP hneQ hap
    go_wp2
    refine bodyPost_ret (v := .tuple #[.agg #[.int .i64 si, .int .i64 st, .slice A2 p c2, .slice A3 q c3, .int .i64 sh, .int .i64 se, .int .i64 su], .bool true]) (by simp [results, Try.results30, go_sem, *]) rfl ?_
    subst hpl hql
    exact ⟨A2, c2, A3, c3, rfl, seven_sets HPX.out HX.out.1.1 _ _ _ _ _ _ _, seven_sets HQX.out HX.out.1.2 _ _ _ _ _ _ _, HX.out.2.1, seven_below HX.out.2.2 (Nat.le_refl _) _ _ _ _ _ _ _⟩
end Go.Proofs.Ytodkcanhlpgpgaa

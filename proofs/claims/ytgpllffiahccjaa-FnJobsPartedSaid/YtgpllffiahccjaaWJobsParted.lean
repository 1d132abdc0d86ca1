/- The walk of the law FnJobsParted. -/
import Derived.Test.YtgpllffiahccjaaKK
import Derived.Test.YtgpllffiahccjaaD4
import Derived.Test.YtgpllffiahccjaaJ1
import Derived.Test.YtgpllffiahccjaaDice
namespace Go.Proofs.Ytgpllffiahccjaa
set_option linter.unusedSimpArgs false
set_option linter.unusedVariables false
attribute [local go_sem] n_lt2 n_lt3 n_lt4 n_le2 n_le3
open Go.RowKit
attribute [local go_sem] Ext.cell Ext.frozen

set_option maxRecDepth 100000 in
set_option maxHeartbeats 4000000 in
theorem law_JobsParted (A : Option Addr) (n cap : Nat) (bs : List Int) (w : World) (hS : SlB w A n bs) (hnc : n ≤ cap) (hcm : cap ≤ maxLen) :
    Calls Try.prog 12 #[.slice A n cap] w fun e' w' => e' = .returned (.bool true) ∧ Below w.heap.size w w' := by
  have hm0 : n ≤ maxLen := Nat.le_trans hnc hcm
  by_cases hbig : 4096 < n
  · have hd : decide (4096 < n) = true := decide_eq_true hbig
    have cb := big_any A n cap w hm0
    rw [hd] at cb
    clear hd hbig
    go_enter Try.func12, Try.ntmps12
    go_wp21
    refine cb.mono ?_
    rintro e w' ⟨rfl, rfl⟩
    go_wp21
    go_ret
    exact ⟨rfl, Below.refl _ _⟩
  have hd : decide (4096 < n) = false := decide_eq_false hbig
  have cb := big_any A n cap w hm0
  rw [hd] at cb
  have HSB := Lib.hid hS
  clear hd hS
  go_enter Try.func12, Try.ntmps12
  go_wp21
  refine cb.mono ?_
  rintro e w' ⟨rfl, rfl⟩
  clear cb
  have B0 : Below w.heap.size w w := Below.refl _ _
  go_wp2_with fail
  refine (DrawDueJobs_any A n cap bs w HSB.out (by omega)).mono ?_
  rintro e w1 ⟨A_l, m, c_l, zl, t, rfl, hm, R_l, b1⟩
  have G_l : w.heap.size ≤ w.heap.size := Nat.le_refl _
  have F_1 := b1
  have l_1 := R_l
  clear R_l
  have hmm : m ≤ maxLen := by unfold maxLen; omega
  obtain ⟨l0, hl0, rfl⟩ := JB_of m zl l_1.len
  obtain ⟨S, hS⟩ : ∃ x, openR l0 = x := ⟨_, rfl⟩
  obtain ⟨nO, hnO⟩ : ∃ x, S.length = x := ⟨_, rfl⟩
  have HS := Lib.hid (And.intro hS hnO)
  have hO8 : nO ≤ 8 := by rw [← hnO, ← hS]; exact openR_len l0
  clear hS hnO
  have e1 := specJobsOk_any A_l m c_l l0 w1 l_1.sl hl0 hmm
  cases hb : jobsB l0 with
  | false =>
    rw [hb] at e1
    clear hb
    go_wp2_with fail
    refine (e1).mono ?_
    rintro e w2 ⟨rfl, b2⟩
    clear e1
    have l_2 := l_1.below b2
    clear l_1
    have F_2 := bthen F_1 b2
    have e2 := openJobs_any A_l m c_l l0 w2 l_2.sl hl0 hmm
    rw [HS.out.1, HS.out.2] at e2
    go_wp2_with fail
    refine (e2).mono ?_
    rintro e w3 ⟨A_o, c_o, rfl, R_o, b3⟩
    clear e2
    have L_l_o := l_2.lt
    have G_o : w.heap.size ≤ w2.heap.size := F_2.size
    have l_3 := l_2.below b3
    clear l_2
    have F_3 := bthen F_2 b3
    have o_3 := R_o
    clear R_o
    have e3 := specOpenJobs_any A_l m c_l l0 w3 l_3.sl hl0 hmm
    rw [HS.out.1, HS.out.2] at e3
    go_wp2_with fail
    refine (e3).mono ?_
    rintro e w4 ⟨A_q, c_q, rfl, R_q, b4⟩
    clear e3
    have L_l_q := l_3.lt
    have L_o_q := o_3.lt
    have G_q : w.heap.size ≤ w3.heap.size := F_3.size
    have l_4 := l_3.below b4
    clear l_3
    have o_4 := o_3.below b4
    clear o_3
    have F_4 := bthen F_3 b4
    have q_4 := R_q
    clear R_q
    go_wp2
    go_ret
    exact ⟨ret_bool (by simp), F_4⟩
  | true =>
    by_cases ht0 : t < 0
    · skip
      rw [hb] at e1
      clear hb
      go_wp2_with fail
      refine (e1).mono ?_
      rintro e w2 ⟨rfl, b2⟩
      clear e1
      have l_2 := l_1.below b2
      clear l_1
      have F_2 := bthen F_1 b2
      have e2 := openJobs_any A_l m c_l l0 w2 l_2.sl hl0 hmm
      rw [HS.out.1, HS.out.2] at e2
      go_wp2_with fail
      refine (e2).mono ?_
      rintro e w3 ⟨A_o, c_o, rfl, R_o, b3⟩
      clear e2
      have L_l_o := l_2.lt
      have G_o : w.heap.size ≤ w2.heap.size := F_2.size
      have l_3 := l_2.below b3
      clear l_2
      have F_3 := bthen F_2 b3
      have o_3 := R_o
      clear R_o
      have e3 := specOpenJobs_any A_l m c_l l0 w3 l_3.sl hl0 hmm
      rw [HS.out.1, HS.out.2] at e3
      go_wp2_with fail
      refine (e3).mono ?_
      rintro e w4 ⟨A_q, c_q, rfl, R_q, b4⟩
      clear e3
      have L_l_q := l_3.lt
      have L_o_q := o_3.lt
      have G_q : w.heap.size ≤ w3.heap.size := F_3.size
      have l_4 := l_3.below b4
      clear l_3
      have o_4 := o_3.below b4
      clear o_3
      have F_4 := bthen F_3 b4
      have q_4 := R_q
      clear R_q
      go_wp2
      go_ret
      exact ⟨ret_bool (by simp), F_4⟩
    by_cases ht1 : 1000000 < t
    · skip
      rw [hb] at e1
      clear hb
      go_wp2_with fail
      refine (e1).mono ?_
      rintro e w2 ⟨rfl, b2⟩
      clear e1
      have l_2 := l_1.below b2
      clear l_1
      have F_2 := bthen F_1 b2
      have e2 := openJobs_any A_l m c_l l0 w2 l_2.sl hl0 hmm
      rw [HS.out.1, HS.out.2] at e2
      go_wp2_with fail
      refine (e2).mono ?_
      rintro e w3 ⟨A_o, c_o, rfl, R_o, b3⟩
      clear e2
      have L_l_o := l_2.lt
      have G_o : w.heap.size ≤ w2.heap.size := F_2.size
      have l_3 := l_2.below b3
      clear l_2
      have F_3 := bthen F_2 b3
      have o_3 := R_o
      clear R_o
      have e3 := specOpenJobs_any A_l m c_l l0 w3 l_3.sl hl0 hmm
      rw [HS.out.1, HS.out.2] at e3
      go_wp2_with fail
      refine (e3).mono ?_
      rintro e w4 ⟨A_q, c_q, rfl, R_q, b4⟩
      clear e3
      have L_l_q := l_3.lt
      have L_o_q := o_3.lt
      have G_q : w.heap.size ≤ w3.heap.size := F_3.size
      have l_4 := l_3.below b4
      clear l_3
      have o_4 := o_3.below b4
      clear o_3
      have F_4 := bthen F_3 b4
      have q_4 := R_q
      clear R_q
      go_wp2
      go_ret
      exact ⟨ret_bool (by simp), F_4⟩
    rw [hb] at e1
    have hSo : S = openL l0 := by rw [← HS.out.1]; unfold openR; rw [if_pos hb]
    have hso := sorted_d (hSo ▸ openL_sorted hb)
    obtain ⟨zg, hzg⟩ : ∃ x, firedR1 l0 = x := ⟨_, rfl⟩
    obtain ⟨nG, hnG⟩ : ∃ x, zg.length = x := ⟨_, rfl⟩
    have hsum : nO + nG = m := by
      rw [← hnG, ← hzg, ← HS.out.2, hSo, ← hl0]
      unfold firedR1
      rw [if_pos hb]
      exact parts_len
    obtain ⟨zd, hzd⟩ : ∃ x, dueR l0 t = x := ⟨_, rfl⟩
    obtain ⟨zf, hzf⟩ : ∃ x, dueR l0 (t + 3) = x := ⟨_, rfl⟩
    have hzd2 : zd = (S.take (cntD S t)).map (·.i) := by rw [← hzd]; unfold dueR; rw [HS.out.1]; exact dueTo_all hso t
    have hzf2 : zf = (S.take (cntD S (t + 3))).map (·.i) := by rw [← hzf]; unfold dueR; rw [HS.out.1]; exact dueTo_all hso (t + 3)
    obtain ⟨nD, hnD⟩ : ∃ x, cntD S t = x := ⟨_, rfl⟩
    obtain ⟨nF, hnF⟩ : ∃ x, cntD S (t + 3) = x := ⟨_, rfl⟩
    have hDF : nD ≤ nF := by rw [← hnD, ← hnF]; exact cntD_mono S (by omega)
    have hFO : nF ≤ nO := by rw [← hnF, ← HS.out.2]; exact cntD_le S _
    have hin : ∀ i, i < nD → (S.getD i default).d ≤ t := fun i hi => cntD_in hso (by rw [hnD]; exact hi)
    have hout : nD < nO → t < (S.getD nD default).d := fun h => by have := cntD_out hso (t := t) (by rw [hnD, HS.out.2]; exact h); rw [hnD] at this; exact this
    rw [hnD] at hzd2
    rw [hnF] at hzf2
    have hlD : zd.length = nD := by rw [hzd2, List.length_map, List.length_take, HS.out.2]; omega
    have hlF : zf.length = nF := by rw [hzf2, List.length_map, List.length_take, HS.out.2]; omega
    have hgD : ∀ i, i < nD → zd.getD i 0 = (S.getD i default).i := fun i hi => by
      have h2 : i < S.length := by rw [HS.out.2]; omega
      rw [hzd2]; simp [List.getD, List.getElem?_take, hi, h2]
    have hgF : ∀ i, i < nF → zf.getD i 0 = (S.getD i default).i := fun i hi => by
      have h2 : i < S.length := by rw [HS.out.2]; omega
      rw [hzf2]; simp [List.getD, List.getElem?_take, hi, h2]
    have HG := Lib.hid (And.intro hzg hnG)
    have HD := Lib.hid (And.intro hzd hlD)
    have HF := Lib.hid (And.intro hzf hlF)
    have HX := Lib.hid (And.intro hgD (And.intro hgF (And.intro hin hout)))
    clear hb hSo hso hzg hnG hzd hzf hzd2 hzf2 hnD hnF hin hout hlD hlF hgD hgF
    have hw3 : IntKind.i64.wrap (t + 3) = t + 3 := by rw [IntKind.wrap_i64]; omega
    have hws : IntKind.i64.wrap ((nO : Int) + (nG : Int)) = (m : Int) := by rw [IntKind.wrap_i64]; omega
    have ht0' : 0 ≤ t := by omega
    have ht1' : t ≤ 1000000 := by omega
    have hFO' : ¬ (nO : Int) < (nF : Int) := by omega
    have hDF' : ¬ (nF : Int) < (nD : Int) := by omega
    go_wp2_with fail
    refine (e1).mono ?_
    rintro e w2 ⟨rfl, b2⟩
    clear e1
    have l_2 := l_1.below b2
    clear l_1
    have F_2 := bthen F_1 b2
    have e2 := openJobs_any A_l m c_l l0 w2 l_2.sl hl0 hmm
    rw [HS.out.1, HS.out.2] at e2
    go_wp2_with fail
    refine (e2).mono ?_
    rintro e w3 ⟨A_o, c_o, rfl, R_o, b3⟩
    clear e2
    have L_l_o := l_2.lt
    have G_o : w.heap.size ≤ w2.heap.size := F_2.size
    have l_3 := l_2.below b3
    clear l_2
    have F_3 := bthen F_2 b3
    have o_3 := R_o
    clear R_o
    have e3 := dueJobs_any A_l m c_l l0 t w3 l_3.sl hl0 hmm
    rw [HD.out.1, HD.out.2] at e3
    go_wp2_with fail
    refine (e3).mono ?_
    rintro e w4 ⟨A_d, c_d, rfl, R_d, b4⟩
    clear e3
    have L_l_d := l_3.lt
    have L_o_d := o_3.lt
    have G_d : w.heap.size ≤ w3.heap.size := F_3.size
    have l_4 := l_3.below b4
    clear l_3
    have o_4 := o_3.below b4
    clear o_3
    have F_4 := bthen F_3 b4
    have d_4 := R_d
    clear R_d
    have e4 := dueJobs_any A_l m c_l l0 (t + 3) w4 l_4.sl hl0 hmm
    rw [HF.out.1, HF.out.2] at e4
    go_wp2_with fail
    refine (e4).mono ?_
    rintro e w5 ⟨A_f, c_f, rfl, R_f, b5⟩
    clear e4
    have L_l_f := l_4.lt
    have L_o_f := o_4.lt
    have L_d_f := d_4.lt
    have G_f : w.heap.size ≤ w4.heap.size := F_4.size
    have l_5 := l_4.below b5
    clear l_4
    have o_5 := o_4.below b5
    clear o_4
    have d_5 := d_4.below b5
    clear d_4
    have F_5 := bthen F_4 b5
    have f_5 := R_f
    clear R_f
    have e5 := firedJobs_any A_l m c_l l0 w5 l_5.sl hl0 hmm
    rw [HG.out.1, HG.out.2] at e5
    go_wp2_with fail
    refine (e5).mono ?_
    rintro e w6 ⟨A_g, c_g, rfl, R_g, b6⟩
    clear e5
    have L_l_g := l_5.lt
    have L_o_g := o_5.lt
    have L_d_g := d_5.lt
    have L_f_g := f_5.lt
    have G_g : w.heap.size ≤ w5.heap.size := F_5.size
    have l_6 := l_5.below b6
    clear l_5
    have o_6 := o_5.below b6
    clear o_5
    have d_6 := d_5.below b6
    clear d_5
    have f_6 := f_5.below b6
    clear f_5
    have F_6 := bthen F_5 b6
    have g_6 := R_g
    clear R_g
    have e6 := specOpenJobs_any A_l m c_l l0 w6 l_6.sl hl0 hmm
    rw [HS.out.1, HS.out.2] at e6
    go_wp2_with fail
    refine (e6).mono ?_
    rintro e w7 ⟨A_q, c_q, rfl, R_q, b7⟩
    clear e6
    have L_l_q := l_6.lt
    have L_o_q := o_6.lt
    have L_d_q := d_6.lt
    have L_f_q := f_6.lt
    have L_g_q := g_6.lt
    have G_q : w.heap.size ≤ w6.heap.size := F_6.size
    have l_7 := l_6.below b7
    clear l_6
    have o_7 := o_6.below b7
    clear o_6
    have d_7 := d_6.below b7
    clear d_6
    have f_7 := f_6.below b7
    clear f_6
    have g_7 := g_6.below b7
    clear g_6
    have F_7 := bthen F_6 b7
    have q_7 := R_q
    clear R_q
    have HO := Lib.hid o_7.sl
    have HDs := Lib.hid d_7.sl
    have HFs := Lib.hid f_7.sl
    have HFr := Lib.hid F_7
    clear l_7 o_7 d_7 f_7 g_7 q_7
    go_wp2
    go_loopw [8] (fun iv wr => ∃ k : Nat, k ≤ nD ∧ iv = .int .i64 (k : Nat) ∧ Below w7.heap.size w7 wr) (fun iv _ => nD - (intOf iv).toNat)
    case atStart => exact ⟨0, Nat.zero_le _, rfl, Below.refl _ _⟩
    case round =>
      obtain ⟨k, hk, rfl, hbl⟩ := hrel
      by_cases hlt : k < nD
      · have hlt' : (k : Int) < (nD : Int) := by omega
        have hkF : (k : Int) < (nF : Int) := by omega
        have hkO : (k : Int) < (nO : Int) := by omega
        obtain ⟨bo, oo, rfl, hbo, hco⟩ := sl_dues HO.out (by omega)
        obtain ⟨bd, od, rfl, hbd, hcd⟩ := HDs.out.at_ (by omega)
        obtain ⟨bf, of_, rfl, hbf, hcf⟩ := HFs.out.at_ (by omega)
        obtain ⟨o0, o1⟩ := hco k (by omega)
        have d0 := hcd k (by omega)
        have f0 := hcf k (by omega)
        rw [HX.out.1 k hlt] at d0
        rw [HX.out.2.1 k (by omega)] at f0
        have hdu := HX.out.2.2.1 k hlt
        clear hco hcd hcf
        generalize S.getD k default = pk at o0 o1 d0 f0 hdu
        obtain ⟨xi, xd⟩ := pk
        simp only at o0 o1 d0 f0 hdu
        rw [← hbl.cell (by exact hbo)] at o0 o1
        rw [← hbl.cell (by exact hbd)] at d0
        rw [← hbl.cell (by exact hbf)] at f0
        have lo := Nat.lt_of_lt_of_le hbo hbl.size
        have ld := Nat.lt_of_lt_of_le hbd hbl.size
        have lf := Nat.lt_of_lt_of_le hbf hbl.size
        go_wp2
        ((refine wp_region_ext (by kernel_rfl) (by kernel_rfl) ?_); (repeat (any_goals (first | go_big_quiet_step (fail) | (refine wpQuiet_step (fun K hK => ?_); go_simp; split <;> (refine hK _ ?_; clear hK K)) | quiet_step (fail)))); (all_goals (refine wpQuiet_nil ?_; rintro _ ⟨z, rfl⟩; have hb' := z.h; generalize z.w = w1 at hb' ⊢; clear z; (first | (have hb2 := bstep hb' hb hb.size; clear hb' hcb hfb hz1 hz2 hz3 hz4 hb; have hb := hb2; clear hb2) | (have hb := hb'; clear hb')); obtain ⟨hcb, hfb, hz1, hz2, hz3, hz4⟩ := bcell hb; (try simp only [World.size_alloc, World.size_setCell, World.size_drew, Nat.lt_add_one_iff, Nat.add_assoc, Nat.reduceAdd] at hz1 hz2 hz3 hz4))))
        all_goals go_wp2
        all_goals exact ⟨⟨k + 1, by omega, by go_num, bthen hbl hb⟩, by simp [intOf]; omega⟩
      · have hkn : k = nD := by omega
        subst hkn
        have hlt' : ¬ (k : Int) < (k : Int) := by omega
        by_cases he : k = nO
        · have heb : ((k : Int) == (nO : Int)) = true := by subst he; simp
          have HE := Lib.hid he
          clear he
          go_wp2
          all_goals go_ret
          all_goals exact ⟨ret_bool (by simp [*]), bthen HFr.out hbl⟩
        · have hlo : (k : Int) < (nO : Int) := by omega
          have hne : ¬ (k : Int) = (nO : Int) := by omega
          have heb : ((k : Int) == (nO : Int)) = false := by rw [beqD]; exact decide_eq_false hne
          obtain ⟨bo, oo, rfl, hbo, hco⟩ := sl_dues HO.out (by omega)
          obtain ⟨o0, o1⟩ := hco k (by omega)
          have hdu := HX.out.2.2.2 (by omega)
          clear hco
          generalize S.getD k default = pk at o0 o1 hdu
          obtain ⟨xi, xd⟩ := pk
          simp only at o0 o1 hdu
          rw [← hbl.cell (by exact hbo)] at o0 o1
          have lo := Nat.lt_of_lt_of_le hbo hbl.size
          go_wp2
          all_goals go_ret
          all_goals exact ⟨ret_bool (by simp [*]), bthen HFr.out hbl⟩
end Go.Proofs.Ytgpllffiahccjaa

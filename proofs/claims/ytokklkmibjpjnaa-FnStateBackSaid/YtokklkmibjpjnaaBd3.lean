/- Part 3 of what the claim rests on: S1, C1, S3, J5, S4, SD1, J7, J8, T1, P12, InsJ, J10, J11, J9. No condition of its own. -/
import Derived.Test.YtokklkmibjpjnaaBd2
import Derived.Deep.DeepCutAuto
import Derived.Deep.RegionHeldLaw
import Derived.Deep.RegionLaw
import Derived.Lib.Overlaps
import Derived.Lib.AppendZeros
import Derived.Laws.Externs
import Derived.Laws.NewBlocks
import Derived.Outline
namespace Go.Proofs.Ytokklkmibjpjnaa
set_option linter.unusedSimpArgs false
set_option linter.unusedVariables false
attribute [local go_sem] n_lt2 n_lt3 n_lt4 n_le2 n_le3
open Go.RowKit
def firedIn (ql : List Jb) (i0 : Int) : Bool := (List.range ql.length).all fun i => decide ((ql.getD i default).f ≤ i0)
def stateB (i0 t0 l0 l1 l2 : Int) (pl : List Pr) (ql : List Jb) : Bool := inB i0 0 2000 && (inB t0 0 1000000 && (pairsB pl && (jobsB ql && (leaseB l0 l1 l2 && firedIn ql i0))))
attribute [local go_sem] Ext.cell Ext.frozen
set_option maxRecDepth 100000 in
set_option maxHeartbeats 4000000 in
theorem stateOk_any (A : Option Addr) (n c : Nat) (B : Option Addr) (m d : Nat) (i0 t0 l0 l1 l2 : Int) (pl : List Pr) (ql : List Jb) (w : World) (hP : Sl w 2 A n (PR pl)) (hQ : Sl w 5 B m (JB ql)) (hl : pl.length = n) (hr : ql.length = m) (hn : n ≤ maxLen) (hm : m ≤ maxLen) :
    Calls Try.prog 23 #[.agg #[.int .i64 i0, .int .i64 t0, .slice A n c, .slice B m d, .int .i64 l0, .int .i64 l1, .int .i64 l2]] w fun e' w' => e' = .returned (.bool (stateB i0 t0 l0 l1 l2 pl ql)) ∧ Below w.heap.size w w' := by
  have hL := Lib.hid hl
  have hR := Lib.hid hr
  have HP := Lib.hid hP
  have HQ := Lib.hid hQ
  clear hP hQ hl hr
  go_enter Try.func23, Try.ntmps23
  go_wp2_with fail
  refine calls_named ?_
  rintro v0 hv0
  have f0 : Below w.heap.size w v0 := by rw [hv0]; (repeat' (first | (with_reducible exact Below.refl _ _) | (with_reducible assumption) | (with_reducible refine Below.alloc ?_ ?_ _) | (with_reducible refine Below.drew ?_) | (with_reducible refine Below.setCell ?_ ?_ _) | (with_reducible refine bstep (by assumption) ?_ ?_) | (with_reducible exact Nat.le_refl _) | omega | (simp [*]; done) | (simp [*]; omega)))
  have z0 : w.heap.size + 1 ≤ v0.heap.size := by rw [hv0]; simp [size_set]
  have HP_0 := Lib.hid (HP.out.below f0)
  have HP_lt := Lib.hid (fun hn => HP.out.lt hn)
  have HQ_0 := Lib.hid (HQ.out.below f0)
  have HQ_lt := Lib.hid (fun hn => HQ.out.lt hn)
  have Hc_0 : Hid (Blk v0 w.heap.size 29 #[.int .i64 i0, .int .i64 t0, .slice A n c, .slice B m d, .int .i64 l0, .int .i64 l1, .int .i64 l2]) := by rw [hv0]; exact Blk.new_at _ _ _ _ (by simp)
  clear hv0
  have lt_c := Hc_0.out.lt
  obtain ⟨r_c0, r_c1, r_c2, r_c3, r_c4, r_c5, r_c6⟩ := bc7 Hc_0.out
  have cc := between_any i0 0 2000 v0
  cases q1 : inB i0 0 2000 with
  | false =>
    rw [q1] at cc
    have Hq1 := Lib.hid q1
    clear q1
    refine (cc).mono ?_
    rintro e v' ⟨rfl, rfl⟩
    have hv : stateB i0 t0 l0 l1 l2 pl ql = false := by unfold stateB; rw [Hq1.out]; simp
    have HV := Lib.hid hv
    clear hv
    go_wp21
    go_ret
    exact ⟨ret_bool HV.out.symm, f0⟩
  | true =>
    rw [q1] at cc
    have Hq1 := Lib.hid q1
    clear q1
    refine (cc).mono ?_
    rintro e v' ⟨rfl, rfl⟩
    clear cc
    have cc := timeOk_any t0 v0
    cases q2 : inB t0 0 1000000 with
    | false =>
      rw [q2] at cc
      have Hq2 := Lib.hid q2
      clear q2
      go_wp2_with fail
      refine (cc).mono ?_
      rintro e v' ⟨rfl, rfl⟩
      have hv : stateB i0 t0 l0 l1 l2 pl ql = false := by unfold stateB; rw [Hq1.out, Hq2.out]; simp
      have HV := Lib.hid hv
      clear hv
      go_wp21
      go_ret
      exact ⟨ret_bool HV.out.symm, f0⟩
    | true =>
      rw [q2] at cc
      have Hq2 := Lib.hid q2
      clear q2
      go_wp2_with fail
      refine (cc).mono ?_
      rintro e v' ⟨rfl, rfl⟩
      clear cc
      have cc := pairsOk_any A n c pl v0 HP_0.out hL.out hn
      cases q3 : pairsB pl with
      | false =>
        rw [q3] at cc
        have Hq3 := Lib.hid q3
        clear q3
        go_wp2_with fail
        refine (cc).mono ?_
        rintro e v1 ⟨rfl, b1⟩
        have f1 := bthen f0 b1
        have z1 := b1.size
        have HP_1 := Lib.hid (HP_0.out.below b1)
        have HQ_1 := Lib.hid (HQ_0.out.below b1)
        have Hc_1 := Lib.hid (Hc_0.out.below b1)
        clear lt_c r_c0 r_c1 r_c2 r_c3 r_c4 r_c5 r_c6
        clear HP_0 HQ_0 Hc_0
        have lt_c := Hc_1.out.lt
        obtain ⟨r_c0, r_c1, r_c2, r_c3, r_c4, r_c5, r_c6⟩ := bc7 Hc_1.out
        have hv : stateB i0 t0 l0 l1 l2 pl ql = false := by unfold stateB; rw [Hq1.out, Hq2.out, Hq3.out]; simp
        have HV := Lib.hid hv
        clear hv
        go_wp21
        go_ret
        exact ⟨ret_bool HV.out.symm, f1⟩
      | true =>
        rw [q3] at cc
        have Hq3 := Lib.hid q3
        clear q3
        go_wp2_with fail
        refine (cc).mono ?_
        rintro e v1 ⟨rfl, b1⟩
        have f1 := bthen f0 b1
        have z1 := b1.size
        have HP_1 := Lib.hid (HP_0.out.below b1)
        have HQ_1 := Lib.hid (HQ_0.out.below b1)
        have Hc_1 := Lib.hid (Hc_0.out.below b1)
        clear lt_c r_c0 r_c1 r_c2 r_c3 r_c4 r_c5 r_c6
        clear HP_0 HQ_0 Hc_0
        have lt_c := Hc_1.out.lt
        obtain ⟨r_c0, r_c1, r_c2, r_c3, r_c4, r_c5, r_c6⟩ := bc7 Hc_1.out
        clear cc
        have cc := jobsOk_any B m d ql v1 HQ_1.out hR.out hm
        cases q4 : jobsB ql with
        | false =>
          rw [q4] at cc
          have Hq4 := Lib.hid q4
          clear q4
          go_wp2_with fail
          refine (cc).mono ?_
          rintro e v2 ⟨rfl, b2⟩
          have f2 := bthen f1 b2
          have z2 := b2.size
          have HP_2 := Lib.hid (HP_1.out.below b2)
          have HQ_2 := Lib.hid (HQ_1.out.below b2)
          have Hc_2 := Lib.hid (Hc_1.out.below b2)
          clear lt_c r_c0 r_c1 r_c2 r_c3 r_c4 r_c5 r_c6
          clear HP_1 HQ_1 Hc_1
          have lt_c := Hc_2.out.lt
          obtain ⟨r_c0, r_c1, r_c2, r_c3, r_c4, r_c5, r_c6⟩ := bc7 Hc_2.out
          have hv : stateB i0 t0 l0 l1 l2 pl ql = false := by unfold stateB; rw [Hq1.out, Hq2.out, Hq3.out, Hq4.out]; simp
          have HV := Lib.hid hv
          clear hv
          go_wp21
          go_ret
          exact ⟨ret_bool HV.out.symm, f2⟩
        | true =>
          rw [q4] at cc
          have Hq4 := Lib.hid q4
          clear q4
          go_wp2_with fail
          refine (cc).mono ?_
          rintro e v2 ⟨rfl, b2⟩
          have f2 := bthen f1 b2
          have z2 := b2.size
          have HP_2 := Lib.hid (HP_1.out.below b2)
          have HQ_2 := Lib.hid (HQ_1.out.below b2)
          have Hc_2 := Lib.hid (Hc_1.out.below b2)
          clear lt_c r_c0 r_c1 r_c2 r_c3 r_c4 r_c5 r_c6
          clear HP_1 HQ_1 Hc_1
          have lt_c := Hc_2.out.lt
          obtain ⟨r_c0, r_c1, r_c2, r_c3, r_c4, r_c5, r_c6⟩ := bc7 Hc_2.out
          clear cc
          have cc := leaseOk_any l0 l1 l2 v2
          cases q5 : leaseB l0 l1 l2 with
          | false =>
            rw [q5] at cc
            have Hq5 := Lib.hid q5
            clear q5
            go_wp2_with fail
            refine (cc).mono ?_
            rintro e v3 ⟨rfl, b3⟩
            have f3 := bthen f2 b3
            have z3 := b3.size
            have HP_3 := Lib.hid (HP_2.out.below b3)
            have HQ_3 := Lib.hid (HQ_2.out.below b3)
            have Hc_3 := Lib.hid (Hc_2.out.below b3)
            clear lt_c r_c0 r_c1 r_c2 r_c3 r_c4 r_c5 r_c6
            clear HP_2 HQ_2 Hc_2
            have lt_c := Hc_3.out.lt
            obtain ⟨r_c0, r_c1, r_c2, r_c3, r_c4, r_c5, r_c6⟩ := bc7 Hc_3.out
            have hv : stateB i0 t0 l0 l1 l2 pl ql = false := by unfold stateB; rw [Hq1.out, Hq2.out, Hq3.out, Hq4.out, Hq5.out]; simp
            have HV := Lib.hid hv
            clear hv
            go_wp21
            go_ret
            exact ⟨ret_bool HV.out.symm, f3⟩
          | true =>
            rw [q5] at cc
            have Hq5 := Lib.hid q5
            clear q5
            go_wp2_with fail
            refine (cc).mono ?_
            rintro e v3 ⟨rfl, b3⟩
            have f3 := bthen f2 b3
            have z3 := b3.size
            have HP_3 := Lib.hid (HP_2.out.below b3)
            have HQ_3 := Lib.hid (HQ_2.out.below b3)
            have Hc_3 := Lib.hid (Hc_2.out.below b3)
            clear lt_c r_c0 r_c1 r_c2 r_c3 r_c4 r_c5 r_c6
            clear HP_2 HQ_2 Hc_2
            have lt_c := Hc_3.out.lt
            obtain ⟨r_c0, r_c1, r_c2, r_c3, r_c4, r_c5, r_c6⟩ := bc7 Hc_3.out
            clear cc
            go_wp21
            clear lt_c r_c0 r_c1 r_c2 r_c3 r_c4 r_c5 r_c6
            unfold maxLen at hm
            go_loopw [36] (fun iv wr => ∃ j : Nat, j ≤ m ∧ iv = .int .i64 j ∧ Below w.heap.size w wr ∧ Hid (Blk wr w.heap.size 29 #[.int .i64 i0, .int .i64 t0, .slice A n c, .slice B m d, .int .i64 l0, .int .i64 l1, .int .i64 l2]) ∧ Hid (∀ i, i < j → decide ((ql.getD i default).f ≤ i0) = true)) (fun iv _ => m - (intOf iv).toNat)
            case atStart => exact ⟨0, Nat.zero_le _, rfl, f3, Hc_3, Lib.hid (fun j hj => absurd hj (by omega))⟩
            case round =>
              clear Hc_3 HP_3 HQ_3
              obtain ⟨j, hj, rfl, hbl, HKr, hall⟩ := hrel
              have lt_c := HKr.out.lt
              obtain ⟨r_c0, r_c1, r_c2, r_c3, r_c4, r_c5, r_c6⟩ := bc7 HKr.out
              by_cases hlt : j < m
              · have hlt' : (j : Int) < (m : Int) := by omega
                obtain ⟨bw, ow, rfl, hbw, hcw⟩ := sl_jobs HQ.out (by omega)
                obtain ⟨h0, h1, h2, h3, h4⟩ := hcw j hlt
                clear hcw
                rw [← hbl.cell (by exact hbw)] at h0 h1 h2 h3 h4
                have hd := fun (b : Bool) (h : decide ((ql.getD j default).f ≤ i0) = b) => h
                generalize hp : ql.getD j default = jb at h0 h1 h2 h3 h4
                obtain ⟨ji, jd, jk, jv, jf⟩ := jb
                simp only at h0 h1 h2 h3 h4
                have HPP := Lib.hid hp
                clear hp hd
                have hbrw : bw < wr.heap.size := Nat.lt_of_lt_of_le hbw hbl.size
                by_cases hf : jf ≤ i0
                · have hf' : ¬ i0 < jf := by omega
                  go_wp2
                  exact ⟨⟨j + 1, by omega, by go_num, by (repeat' (first | (with_reducible exact Below.refl _ _) | (with_reducible assumption) | (with_reducible refine Below.alloc ?_ ?_ _) | (with_reducible refine Below.drew ?_) | (with_reducible refine Below.setCell ?_ ?_ _) | (with_reducible refine bstep (by assumption) ?_ ?_) | (with_reducible exact Nat.le_refl _) | omega | (simp [*]; done) | (simp [*]; omega))), Lib.hid (HKr.out.alloc _), Lib.hid (upto_succ hall.out (by rw [HPP.out]; exact decide_eq_true hf))⟩, by simp [intOf]; omega⟩
                · have hf' : i0 < jf := by omega
                  have hv : stateB i0 t0 l0 l1 l2 pl ql = false := by
                    have : firedIn ql i0 = false := all_range_false (by rw [hR.out]; exact hlt) (by rw [HPP.out]; exact decide_eq_false hf)
                    unfold stateB; rw [Hq1.out, Hq2.out, Hq3.out, Hq4.out, Hq5.out, this]; rfl
                  have HV := Lib.hid hv
                  clear hv
                  go_wp2
                  go_ret
                  exact ⟨ret_bool HV.out.symm, by (repeat' (first | (with_reducible exact Below.refl _ _) | (with_reducible assumption) | (with_reducible refine Below.alloc ?_ ?_ _) | (with_reducible refine Below.drew ?_) | (with_reducible refine Below.setCell ?_ ?_ _) | (with_reducible refine bstep (by assumption) ?_ ?_) | (with_reducible exact Nat.le_refl _) | omega | (simp [*]; done) | (simp [*]; omega)))⟩
              · have hkn : m = j := by omega
                have hlt' : ¬ (j : Int) < (m : Int) := by omega
                have hv : stateB i0 t0 l0 l1 l2 pl ql = true := by
                  have : firedIn ql i0 = true := all_range_true (by rw [hR.out, hkn]; exact hall.out)
                  unfold stateB; rw [Hq1.out, Hq2.out, Hq3.out, Hq4.out, Hq5.out, this]; rfl
                have HV := Lib.hid hv
                clear hv hkn
                go_wp21
                go_ret
                exact ⟨ret_bool HV.out.symm, hbl⟩
set_option maxRecDepth 100000 in
set_option maxHeartbeats 4000000 in
theorem specStateOk_any (A : Option Addr) (n c : Nat) (B : Option Addr) (m d : Nat) (i0 t0 l0 l1 l2 : Int) (pl : List Pr) (ql : List Jb) (w : World) (hP : Sl w 2 A n (PR pl)) (hQ : Sl w 5 B m (JB ql)) (hl : pl.length = n) (hr : ql.length = m) (hn : n ≤ maxLen) (hm : m ≤ maxLen) :
    Calls Try.prog 8 #[.agg #[.int .i64 i0, .int .i64 t0, .slice A n c, .slice B m d, .int .i64 l0, .int .i64 l1, .int .i64 l2]] w fun e' w' => e' = .returned (.bool (stateB i0 t0 l0 l1 l2 pl ql)) ∧ Below w.heap.size w w' := by
  have hL := Lib.hid hl
  have hR := Lib.hid hr
  have HP := Lib.hid hP
  have HQ := Lib.hid hQ
  clear hP hQ hl hr
  go_enter Try.func8, Try.ntmps8
  go_wp2_with fail
  refine calls_named ?_
  rintro v0 hv0
  have f0 : Below w.heap.size w v0 := by rw [hv0]; (repeat' (first | (with_reducible exact Below.refl _ _) | (with_reducible assumption) | (with_reducible refine Below.alloc ?_ ?_ _) | (with_reducible refine Below.drew ?_) | (with_reducible refine Below.setCell ?_ ?_ _) | (with_reducible refine bstep (by assumption) ?_ ?_) | (with_reducible exact Nat.le_refl _) | omega | (simp [*]; done) | (simp [*]; omega)))
  have z0 : w.heap.size + 1 ≤ v0.heap.size := by rw [hv0]; simp [size_set]
  have HP_0 := Lib.hid (HP.out.below f0)
  have HP_lt := Lib.hid (fun hn => HP.out.lt hn)
  have HQ_0 := Lib.hid (HQ.out.below f0)
  have HQ_lt := Lib.hid (fun hn => HQ.out.lt hn)
  have Hc_0 : Hid (Blk v0 w.heap.size 29 #[.int .i64 i0, .int .i64 t0, .slice A n c, .slice B m d, .int .i64 l0, .int .i64 l1, .int .i64 l2]) := by rw [hv0]; exact Blk.new_at _ _ _ _ (by simp)
  clear hv0
  have lt_c := Hc_0.out.lt
  obtain ⟨r_c0, r_c1, r_c2, r_c3, r_c4, r_c5, r_c6⟩ := bc7 Hc_0.out
  have cc := l1In_any i0 0 2000 v0
  cases q1 : inB i0 0 2000 with
  | false =>
    rw [q1] at cc
    have Hq1 := Lib.hid q1
    clear q1
    refine (cc).mono ?_
    rintro e v' ⟨rfl, rfl⟩
    have hv : stateB i0 t0 l0 l1 l2 pl ql = false := by unfold stateB; rw [Hq1.out]; simp
    have HV := Lib.hid hv
    clear hv
    go_wp21
    go_ret
    exact ⟨ret_bool HV.out.symm, f0⟩
  | true =>
    rw [q1] at cc
    have Hq1 := Lib.hid q1
    clear q1
    refine (cc).mono ?_
    rintro e v' ⟨rfl, rfl⟩
    clear cc
    have cc := l16Time_any t0 v0
    cases q2 : inB t0 0 1000000 with
    | false =>
      rw [q2] at cc
      have Hq2 := Lib.hid q2
      clear q2
      go_wp2_with fail
      refine (cc).mono ?_
      rintro e v' ⟨rfl, rfl⟩
      have hv : stateB i0 t0 l0 l1 l2 pl ql = false := by unfold stateB; rw [Hq1.out, Hq2.out]; simp
      have HV := Lib.hid hv
      clear hv
      go_wp21
      go_ret
      exact ⟨ret_bool HV.out.symm, f0⟩
    | true =>
      rw [q2] at cc
      have Hq2 := Lib.hid q2
      clear q2
      go_wp2_with fail
      refine (cc).mono ?_
      rintro e v' ⟨rfl, rfl⟩
      clear cc
      have cc := specPairsOk_any A n c pl v0 HP_0.out hL.out hn
      cases q3 : pairsB pl with
      | false =>
        rw [q3] at cc
        have Hq3 := Lib.hid q3
        clear q3
        go_wp2_with fail
        refine (cc).mono ?_
        rintro e v1 ⟨rfl, b1⟩
        have f1 := bthen f0 b1
        have z1 := b1.size
        have HP_1 := Lib.hid (HP_0.out.below b1)
        have HQ_1 := Lib.hid (HQ_0.out.below b1)
        have Hc_1 := Lib.hid (Hc_0.out.below b1)
        clear lt_c r_c0 r_c1 r_c2 r_c3 r_c4 r_c5 r_c6
        clear HP_0 HQ_0 Hc_0
        have lt_c := Hc_1.out.lt
        obtain ⟨r_c0, r_c1, r_c2, r_c3, r_c4, r_c5, r_c6⟩ := bc7 Hc_1.out
        have hv : stateB i0 t0 l0 l1 l2 pl ql = false := by unfold stateB; rw [Hq1.out, Hq2.out, Hq3.out]; simp
        have HV := Lib.hid hv
        clear hv
        go_wp21
        go_ret
        exact ⟨ret_bool HV.out.symm, f1⟩
      | true =>
        rw [q3] at cc
        have Hq3 := Lib.hid q3
        clear q3
        go_wp2_with fail
        refine (cc).mono ?_
        rintro e v1 ⟨rfl, b1⟩
        have f1 := bthen f0 b1
        have z1 := b1.size
        have HP_1 := Lib.hid (HP_0.out.below b1)
        have HQ_1 := Lib.hid (HQ_0.out.below b1)
        have Hc_1 := Lib.hid (Hc_0.out.below b1)
        clear lt_c r_c0 r_c1 r_c2 r_c3 r_c4 r_c5 r_c6
        clear HP_0 HQ_0 Hc_0
        have lt_c := Hc_1.out.lt
        obtain ⟨r_c0, r_c1, r_c2, r_c3, r_c4, r_c5, r_c6⟩ := bc7 Hc_1.out
        clear cc
        have cc := specJobsOk_any B m d ql v1 HQ_1.out hR.out hm
        cases q4 : jobsB ql with
        | false =>
          rw [q4] at cc
          have Hq4 := Lib.hid q4
          clear q4
          go_wp2_with fail
          refine (cc).mono ?_
          rintro e v2 ⟨rfl, b2⟩
          have f2 := bthen f1 b2
          have z2 := b2.size
          have HP_2 := Lib.hid (HP_1.out.below b2)
          have HQ_2 := Lib.hid (HQ_1.out.below b2)
          have Hc_2 := Lib.hid (Hc_1.out.below b2)
          clear lt_c r_c0 r_c1 r_c2 r_c3 r_c4 r_c5 r_c6
          clear HP_1 HQ_1 Hc_1
          have lt_c := Hc_2.out.lt
          obtain ⟨r_c0, r_c1, r_c2, r_c3, r_c4, r_c5, r_c6⟩ := bc7 Hc_2.out
          have hv : stateB i0 t0 l0 l1 l2 pl ql = false := by unfold stateB; rw [Hq1.out, Hq2.out, Hq3.out, Hq4.out]; simp
          have HV := Lib.hid hv
          clear hv
          go_wp21
          go_ret
          exact ⟨ret_bool HV.out.symm, f2⟩
        | true =>
          rw [q4] at cc
          have Hq4 := Lib.hid q4
          clear q4
          go_wp2_with fail
          refine (cc).mono ?_
          rintro e v2 ⟨rfl, b2⟩
          have f2 := bthen f1 b2
          have z2 := b2.size
          have HP_2 := Lib.hid (HP_1.out.below b2)
          have HQ_2 := Lib.hid (HQ_1.out.below b2)
          have Hc_2 := Lib.hid (Hc_1.out.below b2)
          clear lt_c r_c0 r_c1 r_c2 r_c3 r_c4 r_c5 r_c6
          clear HP_1 HQ_1 Hc_1
          have lt_c := Hc_2.out.lt
          obtain ⟨r_c0, r_c1, r_c2, r_c3, r_c4, r_c5, r_c6⟩ := bc7 Hc_2.out
          clear cc
          have cc := specLeaseOk_any l0 l1 l2 v2
          cases q5 : leaseB l0 l1 l2 with
          | false =>
            rw [q5] at cc
            have Hq5 := Lib.hid q5
            clear q5
            go_wp2_with fail
            refine (cc).mono ?_
            rintro e v3 ⟨rfl, b3⟩
            have f3 := bthen f2 b3
            have z3 := b3.size
            have HP_3 := Lib.hid (HP_2.out.below b3)
            have HQ_3 := Lib.hid (HQ_2.out.below b3)
            have Hc_3 := Lib.hid (Hc_2.out.below b3)
            clear lt_c r_c0 r_c1 r_c2 r_c3 r_c4 r_c5 r_c6
            clear HP_2 HQ_2 Hc_2
            have lt_c := Hc_3.out.lt
            obtain ⟨r_c0, r_c1, r_c2, r_c3, r_c4, r_c5, r_c6⟩ := bc7 Hc_3.out
            have hv : stateB i0 t0 l0 l1 l2 pl ql = false := by unfold stateB; rw [Hq1.out, Hq2.out, Hq3.out, Hq4.out, Hq5.out]; simp
            have HV := Lib.hid hv
            clear hv
            go_wp21
            go_ret
            exact ⟨ret_bool HV.out.symm, f3⟩
          | true =>
            rw [q5] at cc
            have Hq5 := Lib.hid q5
            clear q5
            go_wp2_with fail
            refine (cc).mono ?_
            rintro e v3 ⟨rfl, b3⟩
            have f3 := bthen f2 b3
            have z3 := b3.size
            have HP_3 := Lib.hid (HP_2.out.below b3)
            have HQ_3 := Lib.hid (HQ_2.out.below b3)
            have Hc_3 := Lib.hid (Hc_2.out.below b3)
            clear lt_c r_c0 r_c1 r_c2 r_c3 r_c4 r_c5 r_c6
            clear HP_2 HQ_2 Hc_2
            have lt_c := Hc_3.out.lt
            obtain ⟨r_c0, r_c1, r_c2, r_c3, r_c4, r_c5, r_c6⟩ := bc7 Hc_3.out
            clear cc
            go_wp21
            clear lt_c r_c0 r_c1 r_c2 r_c3 r_c4 r_c5 r_c6
            unfold maxLen at hm
            go_loopw [3] (fun iv wr => ∃ j : Nat, j ≤ m ∧ iv = .int .i64 j ∧ Below w.heap.size w wr ∧ Hid (Blk wr w.heap.size 29 #[.int .i64 i0, .int .i64 t0, .slice A n c, .slice B m d, .int .i64 l0, .int .i64 l1, .int .i64 l2]) ∧ Hid (∀ i, i < j → decide ((ql.getD i default).f ≤ i0) = true)) (fun iv _ => m - (intOf iv).toNat)
            case atStart => exact ⟨0, Nat.zero_le _, rfl, f3, Hc_3, Lib.hid (fun j hj => absurd hj (by omega))⟩
            case round =>
              clear Hc_3 HP_3 HQ_3
              obtain ⟨j, hj, rfl, hbl, HKr, hall⟩ := hrel
              have lt_c := HKr.out.lt
              obtain ⟨r_c0, r_c1, r_c2, r_c3, r_c4, r_c5, r_c6⟩ := bc7 HKr.out
              by_cases hlt : j < m
              · have hlt' : (j : Int) < (m : Int) := by omega
                obtain ⟨bw, ow, rfl, hbw, hcw⟩ := sl_jobs HQ.out (by omega)
                obtain ⟨h0, h1, h2, h3, h4⟩ := hcw j hlt
                clear hcw
                rw [← hbl.cell (by exact hbw)] at h0 h1 h2 h3 h4
                have hd := fun (b : Bool) (h : decide ((ql.getD j default).f ≤ i0) = b) => h
                generalize hp : ql.getD j default = jb at h0 h1 h2 h3 h4
                obtain ⟨ji, jd, jk, jv, jf⟩ := jb
                simp only at h0 h1 h2 h3 h4
                have HPP := Lib.hid hp
                clear hp hd
                have hbrw : bw < wr.heap.size := Nat.lt_of_lt_of_le hbw hbl.size
                by_cases hf : jf ≤ i0
                · have hf' : ¬ i0 < jf := by omega
                  go_wp2
                  ((refine wp_region_ext (by kernel_rfl) (by kernel_rfl) ?_); (repeat (any_goals (first | go_big_quiet_step (fail) | (refine wpQuiet_step (fun K hK => ?_); go_simp; split <;> (refine hK _ ?_; clear hK K)) | quiet_step (fail)))); (all_goals (refine wpQuiet_nil ?_; rintro _ ⟨z, rfl⟩; have hb' := z.h; generalize z.w = w1 at hb' ⊢; clear z; (first | (have hb2 := bstep hb' hb hb.size; clear hb' hcb hfb hz1 hz2 hz3 hz4 hb; have hb := hb2; clear hb2) | (have hb := hb'; clear hb')); obtain ⟨hcb, hfb, hz1, hz2, hz3, hz4⟩ := bcell hb; (try simp only [World.size_alloc, World.size_setCell, World.size_drew, Nat.lt_add_one_iff, Nat.add_assoc, Nat.reduceAdd] at hz1 hz2 hz3 hz4))))
                  go_wp2
                  exact ⟨⟨j + 1, by omega, by go_num, bstep hb hbl hbl.size, Lib.hid (HKr.out.below hb), Lib.hid (upto_succ hall.out (by rw [HPP.out]; exact decide_eq_true hf))⟩, by simp [intOf]; omega⟩
                · have hf' : i0 < jf := by omega
                  have hv : stateB i0 t0 l0 l1 l2 pl ql = false := by
                    have : firedIn ql i0 = false := all_range_false (by rw [hR.out]; exact hlt) (by rw [HPP.out]; exact decide_eq_false hf)
                    unfold stateB; rw [Hq1.out, Hq2.out, Hq3.out, Hq4.out, Hq5.out, this]; rfl
                  have HV := Lib.hid hv
                  clear hv
                  go_wp2
                  ((refine wp_region_ext (by kernel_rfl) (by kernel_rfl) ?_); (repeat (any_goals (first | go_big_quiet_step (fail) | (refine wpQuiet_step (fun K hK => ?_); go_simp; split <;> (refine hK _ ?_; clear hK K)) | quiet_step (fail)))); (all_goals (refine wpQuiet_nil ?_; rintro _ ⟨z, rfl⟩; have hb' := z.h; generalize z.w = w1 at hb' ⊢; clear z; (first | (have hb2 := bstep hb' hb hb.size; clear hb' hcb hfb hz1 hz2 hz3 hz4 hb; have hb := hb2; clear hb2) | (have hb := hb'; clear hb')); obtain ⟨hcb, hfb, hz1, hz2, hz3, hz4⟩ := bcell hb; (try simp only [World.size_alloc, World.size_setCell, World.size_drew, Nat.lt_add_one_iff, Nat.add_assoc, Nat.reduceAdd] at hz1 hz2 hz3 hz4))))
                  go_wp2
                  go_ret
                  exact ⟨ret_bool HV.out.symm, bstep hb hbl hbl.size⟩
              · have hkn : m = j := by omega
                have hlt' : ¬ (j : Int) < (m : Int) := by omega
                have hv : stateB i0 t0 l0 l1 l2 pl ql = true := by
                  have : firedIn ql i0 = true := all_range_true (by rw [hR.out, hkn]; exact hall.out)
                  unfold stateB; rw [Hq1.out, Hq2.out, Hq3.out, Hq4.out, Hq5.out, this]; rfl
                have HV := Lib.hid hv
                clear hv hkn
                go_wp21
                go_ret
                exact ⟨ret_bool HV.out.symm, hbl⟩
end Go.Proofs.Ytokklkmibjpjnaa
namespace Go.Proofs.Ytokklkmibjpjnaa
set_option linter.unusedSimpArgs false
set_option linter.unusedVariables false
attribute [local go_sem] n_lt2 n_lt3 n_lt4 n_le2 n_le3
open Go.RowKit

structure Wt where
  k : Int
  o : Int
  a : Int
  b : Int
  c : Int
  d : Int
  y : Int
instance : Inhabited Wt := ⟨⟨0, 0, 0, 0, 0, 0, 0⟩⟩
def WT (l : List Wt) : List Int := l.flatMap fun j => [j.k, j.o, j.a, j.b, j.c, j.d, j.y]
theorem WT_len (l : List Wt) : (WT l).length = l.length * 7 := flat_len _ 7 l (fun _ _ => rfl)
theorem WT_append (a b : List Wt) : WT (a ++ b) = WT a ++ WT b := by simp [WT]
theorem WT_get (l : List Wt) (i j : Nat) (h : i < l.length) (hj : j < 7) : (WT l).getD (i * 7 + j) 0 = [(l.getD i default).k, (l.getD i default).o, (l.getD i default).a, (l.getD i default).b, (l.getD i default).c, (l.getD i default).d, (l.getD i default).y].getD j 0 := by
  have := flat_getD (fun j : Wt => [j.k, j.o, j.a, j.b, j.c, j.d, j.y]) 7 l (fun _ _ => rfl) i j h hj
  have e : l.getD i default = l[i] := by simp [List.getD, h]
  rw [e]
  exact this
theorem WT_of : ∀ (n : Nat) (zs : List Int), zs.length = n * 7 → ∃ l : List Wt, l.length = n ∧ WT l = zs
  | 0, zs, h => ⟨[], rfl, by simpa [WT] using (List.eq_nil_of_length_eq_zero (by omega)).symm⟩
  | n + 1, a0 :: a1 :: a2 :: a3 :: a4 :: a5 :: a6 :: zs, h => by
    obtain ⟨l, hl, he⟩ := WT_of n zs (by simp at h; omega)
    exact ⟨⟨a0, a1, a2, a3, a4, a5, a6⟩ :: l, by simp [hl], by rw [← he]; rfl⟩
  | n + 1, [], h => by simp at h
  | n + 1, [_], h => by simp at h; omega
  | n + 1, [_, _], h => by simp at h; omega
  | n + 1, [_, _, _], h => by simp at h; omega
  | n + 1, [_, _, _, _], h => by simp at h; omega
  | n + 1, [_, _, _, _, _], h => by simp at h; omega
  | n + 1, [_, _, _, _, _, _], h => by simp at h; omega
theorem sl_wants {w : World} {A : Option Addr} {n : Nat} {l : List Wt} (h : Sl w 7 A n (WT l)) (hn : 0 < n) : ∃ b off, A = some ⟨b, off, none⟩ ∧ b < w.heap.size ∧
    ∀ i, i < n → w.cell? ⟨b, off + i * 7, none⟩ = some (.int .i64 (l.getD i default).k) ∧ w.cell? ⟨b, off + i * 7 + 1, none⟩ = some (.int .i64 (l.getD i default).o) ∧ w.cell? ⟨b, off + i * 7 + 2, none⟩ = some (.int .i64 (l.getD i default).a) ∧ w.cell? ⟨b, off + i * 7 + 3, none⟩ = some (.int .i64 (l.getD i default).b) ∧ w.cell? ⟨b, off + i * 7 + 4, none⟩ = some (.int .i64 (l.getD i default).c) ∧ w.cell? ⟨b, off + i * 7 + 5, none⟩ = some (.int .i64 (l.getD i default).d) ∧ w.cell? ⟨b, off + i * 7 + 6, none⟩ = some (.int .i64 (l.getD i default).y) := by
  have hl : l.length = n := by
    have := h.len
    rw [WT_len] at this
    omega
  obtain ⟨b, off, hA, hb, hc⟩ := h.at_ hn
  have hg : ∀ i, i < n → ∀ j, j < 7 → w.cell? ⟨b, off + i * 7 + j, none⟩ = some (.int .i64 ([(l.getD i default).k, (l.getD i default).o, (l.getD i default).a, (l.getD i default).b, (l.getD i default).c, (l.getD i default).d, (l.getD i default).y].getD j 0)) := fun i hi j hj => by
    rw [Nat.add_assoc, hc (i * 7 + j) (by omega), WT_get l i j (by omega) hj]
  exact ⟨b, off, hA, hb, fun i hi => ⟨hg i hi 0 (by decide), hg i hi 1 (by decide), hg i hi 2 (by decide), hg i hi 3 (by decide), hg i hi 4 (by decide), hg i hi 5 (by decide), hg i hi 6 (by decide)⟩⟩
structure Gt where
  q : Int
  x : Int
  h : Int
  v : Int
instance : Inhabited Gt := ⟨⟨0, 0, 0, 0⟩⟩
def GT (l : List Gt) : List Int := l.flatMap fun j => [j.q, j.x, j.h, j.v]
theorem GT_len (l : List Gt) : (GT l).length = l.length * 4 := flat_len _ 4 l (fun _ _ => rfl)
theorem GT_append (a b : List Gt) : GT (a ++ b) = GT a ++ GT b := by simp [GT]
theorem GT_get (l : List Gt) (i j : Nat) (h : i < l.length) (hj : j < 4) : (GT l).getD (i * 4 + j) 0 = [(l.getD i default).q, (l.getD i default).x, (l.getD i default).h, (l.getD i default).v].getD j 0 := by
  have := flat_getD (fun j : Gt => [j.q, j.x, j.h, j.v]) 4 l (fun _ _ => rfl) i j h hj
  have e : l.getD i default = l[i] := by simp [List.getD, h]
  rw [e]
  exact this
theorem GT_of : ∀ (n : Nat) (zs : List Int), zs.length = n * 4 → ∃ l : List Gt, l.length = n ∧ GT l = zs
  | 0, zs, h => ⟨[], rfl, by simpa [GT] using (List.eq_nil_of_length_eq_zero (by omega)).symm⟩
  | n + 1, a0 :: a1 :: a2 :: a3 :: zs, h => by
    obtain ⟨l, hl, he⟩ := GT_of n zs (by simp at h; omega)
    exact ⟨⟨a0, a1, a2, a3⟩ :: l, by simp [hl], by rw [← he]; rfl⟩
  | n + 1, [], h => by simp at h
  | n + 1, [_], h => by simp at h; omega
  | n + 1, [_, _], h => by simp at h; omega
  | n + 1, [_, _, _], h => by simp at h; omega
theorem sl_gots {w : World} {A : Option Addr} {n : Nat} {l : List Gt} (h : Sl w 4 A n (GT l)) (hn : 0 < n) : ∃ b off, A = some ⟨b, off, none⟩ ∧ b < w.heap.size ∧
    ∀ i, i < n → w.cell? ⟨b, off + i * 4, none⟩ = some (.int .i64 (l.getD i default).q) ∧ w.cell? ⟨b, off + i * 4 + 1, none⟩ = some (.int .i64 (l.getD i default).x) ∧ w.cell? ⟨b, off + i * 4 + 2, none⟩ = some (.int .i64 (l.getD i default).h) ∧ w.cell? ⟨b, off + i * 4 + 3, none⟩ = some (.int .i64 (l.getD i default).v) := by
  have hl : l.length = n := by
    have := h.len
    rw [GT_len] at this
    omega
  obtain ⟨b, off, hA, hb, hc⟩ := h.at_ hn
  have hg : ∀ i, i < n → ∀ j, j < 4 → w.cell? ⟨b, off + i * 4 + j, none⟩ = some (.int .i64 ([(l.getD i default).q, (l.getD i default).x, (l.getD i default).h, (l.getD i default).v].getD j 0)) := fun i hi j hj => by
    rw [Nat.add_assoc, hc (i * 4 + j) (by omega), GT_get l i j (by omega) hj]
  exact ⟨b, off, hA, hb, fun i hi => ⟨hg i hi 0 (by decide), hg i hi 1 (by decide), hg i hi 2 (by decide), hg i hi 3 (by decide)⟩⟩

theorem beqI (a b : Int) : (a == b) = decide (a = b) := by by_cases h : a = b <;> simp [h]
def opB (k a b c d : Int) : Bool :=
  if k = 1 then inB a 0 9 && (inB b 0 999 && (decide (c = 0) && decide (d = 0)))
  else if k = 2 then inB a 0 9 && (decide (b = 0) && (decide (c = 0) && decide (d = 0)))
  else if k = 3 then inB a 1 20 && (inB b 0 1000000 && (inB c 0 9 && inB d 0 999))
  else if k = 4 then inB a 1 20 && (inB b 0 1000 && (decide (c = 0) && decide (d = 0)))
  else if k = 5 then inB a 1 1000 && (decide (b = 0) && (decide (c = 0) && decide (d = 0)))
  else false
theorem l7Key_any (x : Int) (w : World) :
    Calls Try.prog 94 #[.int .i64 x] w fun e w' => e = .returned (.bool (inB x 0 9)) ∧ w = w' := by
  go_enter Try.func94, Try.ntmps94
  go_wp2_with ((go_at_call 27; refine (l1In_any _ _ _ _).mono ?_; rintro e w' ⟨rfl, rfl⟩))
  go_ret; exact ⟨rfl, rfl⟩
theorem l7Value_any (x : Int) (w : World) :
    Calls Try.prog 95 #[.int .i64 x] w fun e w' => e = .returned (.bool (inB x 0 999)) ∧ w = w' := by
  go_enter Try.func95, Try.ntmps95
  go_wp2_with ((go_at_call 27; refine (l1In_any _ _ _ _).mono ?_; rintro e w' ⟨rfl, rfl⟩))
  go_ret; exact ⟨rfl, rfl⟩
theorem l7Id_any (x : Int) (w : World) :
    Calls Try.prog 96 #[.int .i64 x] w fun e w' => e = .returned (.bool (inB x 1 20)) ∧ w = w' := by
  go_enter Try.func96, Try.ntmps96
  go_wp2_with ((go_at_call 27; refine (l1In_any _ _ _ _).mono ?_; rintro e w' ⟨rfl, rfl⟩))
  go_ret; exact ⟨rfl, rfl⟩
theorem l7Seq_any (x : Int) (w : World) :
    Calls Try.prog 92 #[.int .i64 x] w fun e w' => e = .returned (.bool (inB x 1 2000)) ∧ w = w' := by
  go_enter Try.func92, Try.ntmps92
  go_wp2_with ((go_at_call 27; refine (l1In_any _ _ _ _).mono ?_; rintro e w' ⟨rfl, rfl⟩))
  go_ret; exact ⟨rfl, rfl⟩
theorem l7Index_any (x : Int) (w : World) :
    Calls Try.prog 89 #[.int .i64 x] w fun e w' => e = .returned (.bool (inB x 1 2000)) ∧ w = w' := by
  go_enter Try.func89, Try.ntmps89
  go_wp2_with ((go_at_call 27; refine (l1In_any _ _ _ _).mono ?_; rintro e w' ⟨rfl, rfl⟩))
  go_ret; exact ⟨rfl, rfl⟩
theorem specTimeOk_any (x : Int) (w : World) :
    Calls Try.prog 90 #[.int .i64 x] w fun e w' => e = .returned (.bool (inB x 0 1000000)) ∧ w = w' := by
  go_enter Try.func90, Try.ntmps90
  go_wp2_with ((go_at_call 27; refine (l1In_any _ _ _ _).mono ?_; rintro e w' ⟨rfl, rfl⟩))
  go_ret; exact ⟨rfl, rfl⟩
theorem specAskerOk_any (x : Int) (w : World) :
    Calls Try.prog 91 #[.int .i64 x] w fun e w' => e = .returned (.bool (inB x 2 5)) ∧ w = w' := by
  go_enter Try.func91, Try.ntmps91
  go_wp2_with ((go_at_call 27; refine (l1In_any _ _ _ _).mono ?_; rintro e w' ⟨rfl, rfl⟩))
  go_ret; exact ⟨rfl, rfl⟩
set_option maxHeartbeats 1000000 in
theorem specOpOk_any (k a b c d : Int) (w : World) :
    Calls Try.prog 93 #[.agg #[.int .i64 k, .int .i64 a, .int .i64 b, .int .i64 c, .int .i64 d]] w fun e' w' => e' = .returned (.bool (opB k a b c d)) ∧ Below w.heap.size w w' := by
  by_cases h1 : k = 1
  · subst h1
    go_enter Try.func93, Try.ntmps93
    go_wp2_with (first | (go_at_call 94; refine (l7Key_any _ _).mono ?_; rintro e w' ⟨rfl, rfl⟩) | (go_at_call 95; refine (l7Value_any _ _).mono ?_; rintro e w' ⟨rfl, rfl⟩) | (go_at_call 96; refine (l7Id_any _ _).mono ?_; rintro e w' ⟨rfl, rfl⟩) | (go_at_call 90; refine (specTimeOk_any _ _).mono ?_; rintro e w' ⟨rfl, rfl⟩) | (go_at_call 27; refine (l1In_any _ _ _ _).mono ?_; rintro e w' ⟨rfl, rfl⟩))
    all_goals (go_ret; unfold opB; exact ⟨ret_bool (by first | (simp [*, beqI]; done) | (subst_vars; simp [*, beqI]; done) | (simp [*, beqI]; intros; omega) | (simp_all [beqI]; done)), by (repeat' (first | (with_reducible exact Below.refl _ _) | (with_reducible assumption) | (with_reducible refine Below.alloc ?_ ?_ _) | (with_reducible refine Below.drew ?_) | (with_reducible refine Below.setCell ?_ ?_ _) | (with_reducible refine bstep (by assumption) ?_ ?_) | (with_reducible exact Nat.le_refl _) | omega | (simp [*]; done) | (simp [*]; omega)))⟩)
  by_cases h2 : k = 2
  · subst h2
    go_enter Try.func93, Try.ntmps93
    go_wp2_with (first | (go_at_call 94; refine (l7Key_any _ _).mono ?_; rintro e w' ⟨rfl, rfl⟩) | (go_at_call 95; refine (l7Value_any _ _).mono ?_; rintro e w' ⟨rfl, rfl⟩) | (go_at_call 96; refine (l7Id_any _ _).mono ?_; rintro e w' ⟨rfl, rfl⟩) | (go_at_call 90; refine (specTimeOk_any _ _).mono ?_; rintro e w' ⟨rfl, rfl⟩) | (go_at_call 27; refine (l1In_any _ _ _ _).mono ?_; rintro e w' ⟨rfl, rfl⟩))
    all_goals (go_ret; unfold opB; exact ⟨ret_bool (by first | (simp [*, beqI]; done) | (subst_vars; simp [*, beqI]; done) | (simp [*, beqI]; intros; omega) | (simp_all [beqI]; done)), by (repeat' (first | (with_reducible exact Below.refl _ _) | (with_reducible assumption) | (with_reducible refine Below.alloc ?_ ?_ _) | (with_reducible refine Below.drew ?_) | (with_reducible refine Below.setCell ?_ ?_ _) | (with_reducible refine bstep (by assumption) ?_ ?_) | (with_reducible exact Nat.le_refl _) | omega | (simp [*]; done) | (simp [*]; omega)))⟩)
  by_cases h3 : k = 3
  · subst h3
    go_enter Try.func93, Try.ntmps93
    go_wp2_with (first | (go_at_call 94; refine (l7Key_any _ _).mono ?_; rintro e w' ⟨rfl, rfl⟩) | (go_at_call 95; refine (l7Value_any _ _).mono ?_; rintro e w' ⟨rfl, rfl⟩) | (go_at_call 96; refine (l7Id_any _ _).mono ?_; rintro e w' ⟨rfl, rfl⟩) | (go_at_call 90; refine (specTimeOk_any _ _).mono ?_; rintro e w' ⟨rfl, rfl⟩) | (go_at_call 27; refine (l1In_any _ _ _ _).mono ?_; rintro e w' ⟨rfl, rfl⟩))
    all_goals (go_ret; unfold opB; exact ⟨ret_bool (by first | (simp [*, beqI]; done) | (subst_vars; simp [*, beqI]; done) | (simp [*, beqI]; intros; omega) | (simp_all [beqI]; done)), by (repeat' (first | (with_reducible exact Below.refl _ _) | (with_reducible assumption) | (with_reducible refine Below.alloc ?_ ?_ _) | (with_reducible refine Below.drew ?_) | (with_reducible refine Below.setCell ?_ ?_ _) | (with_reducible refine bstep (by assumption) ?_ ?_) | (with_reducible exact Nat.le_refl _) | omega | (simp [*]; done) | (simp [*]; omega)))⟩)
  by_cases h4 : k = 4
  · subst h4
    go_enter Try.func93, Try.ntmps93
    go_wp2_with (first | (go_at_call 94; refine (l7Key_any _ _).mono ?_; rintro e w' ⟨rfl, rfl⟩) | (go_at_call 95; refine (l7Value_any _ _).mono ?_; rintro e w' ⟨rfl, rfl⟩) | (go_at_call 96; refine (l7Id_any _ _).mono ?_; rintro e w' ⟨rfl, rfl⟩) | (go_at_call 90; refine (specTimeOk_any _ _).mono ?_; rintro e w' ⟨rfl, rfl⟩) | (go_at_call 27; refine (l1In_any _ _ _ _).mono ?_; rintro e w' ⟨rfl, rfl⟩))
    all_goals (go_ret; unfold opB; exact ⟨ret_bool (by first | (simp [*, beqI]; done) | (subst_vars; simp [*, beqI]; done) | (simp [*, beqI]; intros; omega) | (simp_all [beqI]; done)), by (repeat' (first | (with_reducible exact Below.refl _ _) | (with_reducible assumption) | (with_reducible refine Below.alloc ?_ ?_ _) | (with_reducible refine Below.drew ?_) | (with_reducible refine Below.setCell ?_ ?_ _) | (with_reducible refine bstep (by assumption) ?_ ?_) | (with_reducible exact Nat.le_refl _) | omega | (simp [*]; done) | (simp [*]; omega)))⟩)
  by_cases h5 : k = 5
  · subst h5
    go_enter Try.func93, Try.ntmps93
    go_wp2_with (first | (go_at_call 94; refine (l7Key_any _ _).mono ?_; rintro e w' ⟨rfl, rfl⟩) | (go_at_call 95; refine (l7Value_any _ _).mono ?_; rintro e w' ⟨rfl, rfl⟩) | (go_at_call 96; refine (l7Id_any _ _).mono ?_; rintro e w' ⟨rfl, rfl⟩) | (go_at_call 90; refine (specTimeOk_any _ _).mono ?_; rintro e w' ⟨rfl, rfl⟩) | (go_at_call 27; refine (l1In_any _ _ _ _).mono ?_; rintro e w' ⟨rfl, rfl⟩))
    all_goals (go_ret; unfold opB; exact ⟨ret_bool (by first | (simp [*, beqI]; done) | (subst_vars; simp [*, beqI]; done) | (simp [*, beqI]; intros; omega) | (simp_all [beqI]; done)), by (repeat' (first | (with_reducible exact Below.refl _ _) | (with_reducible assumption) | (with_reducible refine Below.alloc ?_ ?_ _) | (with_reducible refine Below.drew ?_) | (with_reducible refine Below.setCell ?_ ?_ _) | (with_reducible refine bstep (by assumption) ?_ ?_) | (with_reducible exact Nat.le_refl _) | omega | (simp [*]; done) | (simp [*]; omega)))⟩)
  go_enter Try.func93, Try.ntmps93
  go_wp2_with fail
  all_goals (go_ret; unfold opB; exact ⟨ret_bool (by first | (simp [*, beqI]; done) | (subst_vars; simp [*, beqI]; done) | (simp [*, beqI]; intros; omega) | (simp_all [beqI]; done)), by (repeat' (first | (with_reducible exact Below.refl _ _) | (with_reducible assumption) | (with_reducible refine Below.alloc ?_ ?_ _) | (with_reducible refine Below.drew ?_) | (with_reducible refine Below.setCell ?_ ?_ _) | (with_reducible refine bstep (by assumption) ?_ ?_) | (with_reducible exact Nat.le_refl _) | omega | (simp [*]; done) | (simp [*]; omega)))⟩)
def wantB (k o a b c d y : Int) : Bool :=
  if k = 1 ∨ k = 2 ∨ k = 3 then opB o a b c d && (decide (o = k) && decide (y = 0))
  else if k = 4 then decide (o = 0 ∧ a = 0 ∧ b = 0 ∧ c = 0 ∧ d = 0) && inB y 0 9
  else false
def wantOkB (x : Wt) : Bool := wantB x.k x.o x.a x.b x.c x.d x.y
def foundB (h v : Int) : Bool := (decide (h = 0) && decide (v = 0)) || (decide (h = 1) && inB v 0 999)
def gotB (k q x h v seq last : Int) : Bool := decide (q = seq) && (inB x last 2000 && (if k = 4 then foundB h v else decide (last < x) && (decide (h = 0) && decide (v = 0))))
def lastAt (gl : List Gt) (i : Nat) : Int := if i = 0 then 0 else (gl.getD (i - 1) default).x
def gotAt (wl : List Wt) (gl : List Gt) (i : Nat) : Bool := gotB (wl.getD i default).k (gl.getD i default).q (gl.getD i default).x (gl.getD i default).h (gl.getD i default).v ((i : Int) + 1) (lastAt gl i)
def wantsB (wl : List Wt) : Bool := (List.range wl.length).all fun i => wantOkB (wl.getD i default)
def gotsB (wl : List Wt) (gl : List Gt) : Bool := (List.range gl.length).all (gotAt wl gl)
def clientB (i0 : Int) (wl : List Wt) (gl : List Gt) (t0 : Int) : Bool := (decide (i0 = 4) || decide (i0 = 5)) && (decide (wl.length ≤ 12) && (wantsB wl && (decide (gl.length ≤ wl.length) && (gotsB wl gl && decide (t0 = lastAt gl gl.length)))))
attribute [local go_sem] Ext.cell Ext.frozen
theorem foundB_eq (h v : Int) : foundB h v = (inB h 0 1 && (inB v 0 999 && (decide (h = 1) || decide (v = 0)))) := by
  rw [Bool.eq_iff_iff]
  unfold foundB
  simp only [Bool.or_eq_true, Bool.and_eq_true, decide_eq_true_eq, inB_iff]
  omega
end Go.Proofs.Ytokklkmibjpjnaa
namespace Go.Proofs.Ytokklkmibjpjnaa
set_option linter.unusedSimpArgs false
set_option linter.unusedVariables false
attribute [local go_sem] n_lt2 n_lt3 n_lt4 n_le2 n_le3
open Go.RowKit
def entryB (ex et ec es ek ea eb eg eh : Int) : Bool := inB ex 1 2000 && (inB et 0 1000000 && (inB ec 2 5 && (inB es 1 2000 && opB ek ea eb eg eh)))
def nextB (i0 t0 ex et ec es ek ea eb eg eh : Int) : Bool := entryB ex et ec es ek ea eb eg eh && ((ex == i0 + 1) && decide (t0 ≤ et))
def nextInB (i0 t0 l0 l1 l2 : Int) (pl : List Pr) (ql : List Jb) (ex et ec es ek ea eb eg eh : Int) : Bool := stateB i0 t0 l0 l1 l2 pl ql && nextB i0 t0 ex et ec es ek ea eb eg eh
theorem stateB_i {i0 t0 l0 l1 l2 : Int} {pl : List Pr} {ql : List Jb} (h : stateB i0 t0 l0 l1 l2 pl ql = true) : 0 ≤ i0 ∧ i0 ≤ 2000 := by
  unfold stateB at h
  simp only [Bool.and_eq_true, inB_iff] at h
  exact h.1
attribute [local go_sem] Ext.cell Ext.frozen
set_option maxRecDepth 100000 in
set_option maxHeartbeats 2000000 in
theorem specEntryOk_any (ex et ec es ek ea eb eg eh : Int) (w : World) :
    Calls Try.prog 86 #[.agg #[.int .i64 ex, .int .i64 et, .int .i64 ec, .int .i64 es, .int .i64 ek, .int .i64 ea, .int .i64 eb, .int .i64 eg, .int .i64 eh]] w fun e' w' => e' = .returned (.bool (entryB ex et ec es ek ea eb eg eh)) ∧ Below w.heap.size w w' := by
  go_enter Try.func86, Try.ntmps86
  go_wp2_with fail
  refine calls_named ?_
  rintro v0 hv0
  have f0 : Below w.heap.size w v0 := by rw [hv0]; (repeat' (first | (with_reducible exact Below.refl _ _) | (with_reducible assumption) | (with_reducible refine Below.alloc ?_ ?_ _) | (with_reducible refine Below.drew ?_) | (with_reducible refine Below.setCell ?_ ?_ _) | (with_reducible refine bstep (by assumption) ?_ ?_) | (with_reducible exact Nat.le_refl _) | omega | (simp [*]; done) | (simp [*]; omega)))
  have z0 : w.heap.size + 1 ≤ v0.heap.size := by rw [hv0]; simp [size_set]
  have Ha_0 : Hid (Blk v0 w.heap.size 49 #[.int .i64 ex, .int .i64 et, .int .i64 ec, .int .i64 es, .int .i64 ek, .int .i64 ea, .int .i64 eb, .int .i64 eg, .int .i64 eh]) := by rw [hv0]; exact Blk.new_at _ _ _ _ (by simp)
  clear hv0
  have lt_a := Ha_0.out.lt
  obtain ⟨r_a0, r_a1, r_a2, r_a3, r_a4, r_a5, r_a6, r_a7, r_a8⟩ := bc9 Ha_0.out
  have cc := l7Index_any ex v0
  cases q1 : (inB ex 1 2000) with
  | false =>
    rw [q1] at cc
    have Hq1 := Lib.hid q1
    clear q1
    refine (cc).mono ?_
    rintro e v' ⟨rfl, rfl⟩
    have hv : entryB ex et ec es ek ea eb eg eh = false := by unfold entryB; rw [Hq1.out]; simp
    have HV := Lib.hid hv
    clear hv
    go_wp21
    go_ret
    exact ⟨ret_bool HV.out.symm, f0⟩
  | true =>
    rw [q1] at cc
    have Hq1 := Lib.hid q1
    clear q1
    refine (cc).mono ?_
    rintro e v' ⟨rfl, rfl⟩
    clear cc
    have cc := specTimeOk_any et v0
    cases q2 : (inB et 0 1000000) with
    | false =>
      rw [q2] at cc
      have Hq2 := Lib.hid q2
      clear q2
      go_wp2_with fail
      refine (cc).mono ?_
      rintro e v' ⟨rfl, rfl⟩
      have hv : entryB ex et ec es ek ea eb eg eh = false := by unfold entryB; rw [Hq1.out, Hq2.out]; simp
      have HV := Lib.hid hv
      clear hv
      go_wp21
      go_ret
      exact ⟨ret_bool HV.out.symm, f0⟩
    | true =>
      rw [q2] at cc
      have Hq2 := Lib.hid q2
      clear q2
      go_wp2_with fail
      refine (cc).mono ?_
      rintro e v' ⟨rfl, rfl⟩
      clear cc
      have cc := specAskerOk_any ec v0
      cases q3 : (inB ec 2 5) with
      | false =>
        rw [q3] at cc
        have Hq3 := Lib.hid q3
        clear q3
        go_wp2_with fail
        refine (cc).mono ?_
        rintro e v' ⟨rfl, rfl⟩
        have hv : entryB ex et ec es ek ea eb eg eh = false := by unfold entryB; rw [Hq1.out, Hq2.out, Hq3.out]; simp
        have HV := Lib.hid hv
        clear hv
        go_wp21
        go_ret
        exact ⟨ret_bool HV.out.symm, f0⟩
      | true =>
        rw [q3] at cc
        have Hq3 := Lib.hid q3
        clear q3
        go_wp2_with fail
        refine (cc).mono ?_
        rintro e v' ⟨rfl, rfl⟩
        clear cc
        have cc := l7Seq_any es v0
        cases q4 : (inB es 1 2000) with
        | false =>
          rw [q4] at cc
          have Hq4 := Lib.hid q4
          clear q4
          go_wp2_with fail
          refine (cc).mono ?_
          rintro e v' ⟨rfl, rfl⟩
          have hv : entryB ex et ec es ek ea eb eg eh = false := by unfold entryB; rw [Hq1.out, Hq2.out, Hq3.out, Hq4.out]; simp
          have HV := Lib.hid hv
          clear hv
          go_wp21
          go_ret
          exact ⟨ret_bool HV.out.symm, f0⟩
        | true =>
          rw [q4] at cc
          have Hq4 := Lib.hid q4
          clear q4
          go_wp2_with fail
          refine (cc).mono ?_
          rintro e v' ⟨rfl, rfl⟩
          clear cc
          have cc := specOpOk_any ek ea eb eg eh v0
          cases q5 : (opB ek ea eb eg eh) with
          | false =>
            rw [q5] at cc
            have Hq5 := Lib.hid q5
            clear q5
            go_wp2_with fail
            refine (cc).mono ?_
            rintro e v1 ⟨rfl, b1⟩
            have f1 := bthen f0 b1
            have z1 := b1.size
            have Ha_1 := Lib.hid (Ha_0.out.below b1)
            clear lt_a r_a0 r_a1 r_a2 r_a3 r_a4 r_a5 r_a6 r_a7 r_a8
            clear Ha_0
            have lt_a := Ha_1.out.lt
            obtain ⟨r_a0, r_a1, r_a2, r_a3, r_a4, r_a5, r_a6, r_a7, r_a8⟩ := bc9 Ha_1.out
            have hv : entryB ex et ec es ek ea eb eg eh = false := by unfold entryB; rw [Hq1.out, Hq2.out, Hq3.out, Hq4.out, Hq5.out]; simp
            have HV := Lib.hid hv
            clear hv
            go_wp21
            go_ret
            exact ⟨ret_bool HV.out.symm, f1⟩
          | true =>
            rw [q5] at cc
            have Hq5 := Lib.hid q5
            clear q5
            go_wp2_with fail
            refine (cc).mono ?_
            rintro e v1 ⟨rfl, b1⟩
            have f1 := bthen f0 b1
            have z1 := b1.size
            have Ha_1 := Lib.hid (Ha_0.out.below b1)
            clear lt_a r_a0 r_a1 r_a2 r_a3 r_a4 r_a5 r_a6 r_a7 r_a8
            clear Ha_0
            have lt_a := Ha_1.out.lt
            obtain ⟨r_a0, r_a1, r_a2, r_a3, r_a4, r_a5, r_a6, r_a7, r_a8⟩ := bc9 Ha_1.out
            clear cc
            have hv : entryB ex et ec es ek ea eb eg eh = true := by unfold entryB; rw [Hq1.out, Hq2.out, Hq3.out, Hq4.out, Hq5.out]; rfl
            have HV := Lib.hid hv
            clear hv
            go_wp21
            go_ret
            exact ⟨ret_bool HV.out.symm, f1⟩
set_option maxRecDepth 100000 in
set_option maxHeartbeats 2000000 in
theorem specNextIn_any (A : Option Addr) (n c : Nat) (B : Option Addr) (m d : Nat) (i0 t0 l0 l1 l2 : Int) (pl : List Pr) (ql : List Jb) (ex et ec es ek ea eb eg eh : Int) (w : World) (hP : Sl w 2 A n (PR pl)) (hQ : Sl w 5 B m (JB ql)) (hl : pl.length = n) (hr : ql.length = m) (hn : n ≤ maxLen) (hm : m ≤ maxLen) :
    Calls Try.prog 73 #[.agg #[.int .i64 i0, .int .i64 t0, .slice A n c, .slice B m d, .int .i64 l0, .int .i64 l1, .int .i64 l2], .agg #[.int .i64 ex, .int .i64 et, .int .i64 ec, .int .i64 es, .int .i64 ek, .int .i64 ea, .int .i64 eb, .int .i64 eg, .int .i64 eh]] w fun e' w' => e' = .returned (.bool (nextInB i0 t0 l0 l1 l2 pl ql ex et ec es ek ea eb eg eh)) ∧ Below w.heap.size w w' := by
  have hL := Lib.hid hl
  have hR := Lib.hid hr
  have HP := Lib.hid hP
  have HQ := Lib.hid hQ
  clear hP hQ hl hr
  go_enter Try.func73, Try.ntmps73
  go_wp2_with fail
  refine calls_named ?_
  rintro v0 hv0
  have f0 : Below w.heap.size w v0 := by rw [hv0]; (repeat' (first | (with_reducible exact Below.refl _ _) | (with_reducible assumption) | (with_reducible refine Below.alloc ?_ ?_ _) | (with_reducible refine Below.drew ?_) | (with_reducible refine Below.setCell ?_ ?_ _) | (with_reducible refine bstep (by assumption) ?_ ?_) | (with_reducible exact Nat.le_refl _) | omega | (simp [*]; done) | (simp [*]; omega)))
  have z0 : w.heap.size + 2 ≤ v0.heap.size := by rw [hv0]; simp [size_set]
  have HP_0 := Lib.hid (HP.out.below f0)
  have HP_lt := Lib.hid (fun hn => HP.out.lt hn)
  have HQ_0 := Lib.hid (HQ.out.below f0)
  have HQ_lt := Lib.hid (fun hn => HQ.out.lt hn)
  have Ha_0 : Hid (Blk v0 w.heap.size 29 #[.int .i64 i0, .int .i64 t0, .slice A n c, .slice B m d, .int .i64 l0, .int .i64 l1, .int .i64 l2]) := by rw [hv0]; exact (Blk.new_at _ _ _ _ (by simp)).alloc _
  have Hb_0 : Hid (Blk v0 (w.heap.size + 1) 49 #[.int .i64 ex, .int .i64 et, .int .i64 ec, .int .i64 es, .int .i64 ek, .int .i64 ea, .int .i64 eb, .int .i64 eg, .int .i64 eh]) := by rw [hv0]; exact Blk.new_at _ _ _ _ (by simp)
  clear hv0
  generalize hg1 : w.heap.size + 1 = g1 at *
  have lg1 : w.heap.size < g1 := by omega
  have lgz : g1 < v0.heap.size := by omega
  have nq1x0 : ¬ g1 = w.heap.size := by omega
  have nq0x1 : ¬ w.heap.size = g1 := by omega
  clear hg1
  have lt_a := Ha_0.out.lt
  obtain ⟨r_a0, r_a1, r_a2, r_a3, r_a4, r_a5, r_a6⟩ := bc7 Ha_0.out
  have lt_b := Hb_0.out.lt
  obtain ⟨r_b0, r_b1, r_b2, r_b3, r_b4, r_b5, r_b6, r_b7, r_b8⟩ := bc9 Hb_0.out
  have cc := specStateOk_any A n c B m d i0 t0 l0 l1 l2 pl ql v0 HP_0.out HQ_0.out hL.out hR.out hn hm
  cases r0 : (stateB i0 t0 l0 l1 l2 pl ql) with
  | false =>
    rw [r0] at cc
    have Hr0 := Lib.hid r0
    clear r0
    refine (cc).mono ?_
    rintro e v1 ⟨rfl, b1⟩
    have f1 := bthen f0 b1
    have z1 := b1.size
    have HP_1 := Lib.hid (HP_0.out.below b1)
    have HQ_1 := Lib.hid (HQ_0.out.below b1)
    have Ha_1 := Lib.hid (Ha_0.out.below b1)
    have Hb_1 := Lib.hid (Hb_0.out.below b1)
    clear lt_a r_a0 r_a1 r_a2 r_a3 r_a4 r_a5 r_a6 lt_b r_b0 r_b1 r_b2 r_b3 r_b4 r_b5 r_b6 r_b7 r_b8
    clear HP_0 HQ_0 Ha_0 Hb_0
    have lt_a := Ha_1.out.lt
    obtain ⟨r_a0, r_a1, r_a2, r_a3, r_a4, r_a5, r_a6⟩ := bc7 Ha_1.out
    have lt_b := Hb_1.out.lt
    obtain ⟨r_b0, r_b1, r_b2, r_b3, r_b4, r_b5, r_b6, r_b7, r_b8⟩ := bc9 Hb_1.out
    have hv : nextInB i0 t0 l0 l1 l2 pl ql ex et ec es ek ea eb eg eh = false := by unfold nextInB; rw [Hr0.out]; simp
    have HV := Lib.hid hv
    clear hv
    go_wp21
    go_ret
    exact ⟨ret_bool HV.out.symm, f1⟩
  | true =>
    rw [r0] at cc
    have Hr0 := Lib.hid r0
    clear r0
    refine (cc).mono ?_
    rintro e v1 ⟨rfl, b1⟩
    have f1 := bthen f0 b1
    have z1 := b1.size
    have HP_1 := Lib.hid (HP_0.out.below b1)
    have HQ_1 := Lib.hid (HQ_0.out.below b1)
    have Ha_1 := Lib.hid (Ha_0.out.below b1)
    have Hb_1 := Lib.hid (Hb_0.out.below b1)
    clear lt_a r_a0 r_a1 r_a2 r_a3 r_a4 r_a5 r_a6 lt_b r_b0 r_b1 r_b2 r_b3 r_b4 r_b5 r_b6 r_b7 r_b8
    clear HP_0 HQ_0 Ha_0 Hb_0
    have lt_a := Ha_1.out.lt
    obtain ⟨r_a0, r_a1, r_a2, r_a3, r_a4, r_a5, r_a6⟩ := bc7 Ha_1.out
    have lt_b := Hb_1.out.lt
    obtain ⟨r_b0, r_b1, r_b2, r_b3, r_b4, r_b5, r_b6, r_b7, r_b8⟩ := bc9 Hb_1.out
    clear cc
    obtain ⟨hi0, hi1⟩ := stateB_i Hr0.out
    have hx : nextInB i0 t0 l0 l1 l2 pl ql ex et ec es ek ea eb eg eh = nextB i0 t0 ex et ec es ek ea eb eg eh := by unfold nextInB; rw [Hr0.out]; rfl
    have HX := Lib.hid hx
    clear hx
    have cc := specEntryOk_any ex et ec es ek ea eb eg eh v1
    cases r1 : (entryB ex et ec es ek ea eb eg eh) with
    | false =>
      rw [r1] at cc
      have Hr1 := Lib.hid r1
      clear r1
      go_wp2_with fail
      refine (cc).mono ?_
      rintro e v2 ⟨rfl, b2⟩
      have f2 := bthen f1 b2
      have z2 := b2.size
      have HP_2 := Lib.hid (HP_1.out.below b2)
      have HQ_2 := Lib.hid (HQ_1.out.below b2)
      have Ha_2 := Lib.hid (Ha_1.out.below b2)
      have Hb_2 := Lib.hid (Hb_1.out.below b2)
      clear lt_a r_a0 r_a1 r_a2 r_a3 r_a4 r_a5 r_a6 lt_b r_b0 r_b1 r_b2 r_b3 r_b4 r_b5 r_b6 r_b7 r_b8
      clear HP_1 HQ_1 Ha_1 Hb_1
      have lt_a := Ha_2.out.lt
      obtain ⟨r_a0, r_a1, r_a2, r_a3, r_a4, r_a5, r_a6⟩ := bc7 Ha_2.out
      have lt_b := Hb_2.out.lt
      obtain ⟨r_b0, r_b1, r_b2, r_b3, r_b4, r_b5, r_b6, r_b7, r_b8⟩ := bc9 Hb_2.out
      have hv : nextB i0 t0 ex et ec es ek ea eb eg eh = false := by unfold nextB; rw [Hr1.out]; simp
      have HV := Lib.hid hv
      clear hv
      go_wp21
      go_ret
      exact ⟨ret_bool (HX.out.trans HV.out).symm, f2⟩
    | true =>
      rw [r1] at cc
      have Hr1 := Lib.hid r1
      clear r1
      go_wp2_with fail
      refine (cc).mono ?_
      rintro e v2 ⟨rfl, b2⟩
      have f2 := bthen f1 b2
      have z2 := b2.size
      have HP_2 := Lib.hid (HP_1.out.below b2)
      have HQ_2 := Lib.hid (HQ_1.out.below b2)
      have Ha_2 := Lib.hid (Ha_1.out.below b2)
      have Hb_2 := Lib.hid (Hb_1.out.below b2)
      clear lt_a r_a0 r_a1 r_a2 r_a3 r_a4 r_a5 r_a6 lt_b r_b0 r_b1 r_b2 r_b3 r_b4 r_b5 r_b6 r_b7 r_b8
      clear HP_1 HQ_1 Ha_1 Hb_1
      have lt_a := Ha_2.out.lt
      obtain ⟨r_a0, r_a1, r_a2, r_a3, r_a4, r_a5, r_a6⟩ := bc7 Ha_2.out
      have lt_b := Hb_2.out.lt
      obtain ⟨r_b0, r_b1, r_b2, r_b3, r_b4, r_b5, r_b6, r_b7, r_b8⟩ := bc9 Hb_2.out
      clear cc
      cases r2 : (ex == i0 + 1) with
      | false =>
        have Hr2 := Lib.hid r2
        have hv : nextB i0 t0 ex et ec es ek ea eb eg eh = false := by unfold nextB; rw [Hr1.out, Hr2.out]; simp
        have HV := Lib.hid hv
        clear hv
        go_wp21
        go_ret
        exact ⟨ret_bool (HX.out.trans HV.out).symm, f2⟩
      | true =>
        have Hr2 : Hid ((ex == i0 + 1) = true) := r2
        cases r3 : (decide (t0 ≤ et)) with
        | false =>
          have Hr3 := Lib.hid r3
          have hle : et < t0 := by have := of_decide_eq_false r3; omega
          have hv : nextB i0 t0 ex et ec es ek ea eb eg eh = false := by unfold nextB; rw [Hr1.out, Hr2.out, Hr3.out]; simp
          have HV := Lib.hid hv
          clear hv
          go_wp21
          go_ret
          exact ⟨ret_bool (HX.out.trans HV.out).symm, f2⟩
        | true =>
          have Hr3 : Hid ((decide (t0 ≤ et)) = true) := r3
          have hle : t0 ≤ et := of_decide_eq_true r3
          have hv : nextB i0 t0 ex et ec es ek ea eb eg eh = true := by unfold nextB; rw [Hr1.out, Hr2.out, Hr3.out]; rfl
          have HV := Lib.hid hv
          clear hv
          go_wp21
          go_ret
          exact ⟨ret_bool (HX.out.trans HV.out).symm, f2⟩
end Go.Proofs.Ytokklkmibjpjnaa
namespace Go.Proofs.Ytokklkmibjpjnaa
set_option linter.unusedSimpArgs false
set_option linter.unusedVariables false
attribute [local go_sem] n_lt2 n_lt3 n_lt4 n_le2 n_le3
open Go.RowKit
attribute [local go_sem] Ext.cell Ext.frozen
set_option maxHeartbeats 1000000 in
theorem specJobAt_any (A : Option Addr) (n cap : Nat) (l : List Jb) (key : Int) (w : World) (hS : Sl w 5 A n (JB l)) (hl : l.length = n) (hn : n ≤ maxLen) :
    Calls Try.prog 49 #[.slice A n cap, .int .i64 key] w fun e' w' => e' = .returned (.tuple #[.agg #[.int .i64 (jobAtR l key).1.i, .int .i64 (jobAtR l key).1.d, .int .i64 (jobAtR l key).1.k, .int .i64 (jobAtR l key).1.v, .int .i64 (jobAtR l key).1.f], .bool (jobAtR l key).2]) ∧ Below w.heap.size w w' := by
  by_cases hk : jobsB l = true
  · have hv : jobAtR l key = jobAtV l key := by unfold jobAtR; rw [if_pos hk]
    rw [hv]
    clear hv
    go_enter Try.func49, Try.ntmps49
    go_wp2_with fail
    refine calls_named ?_
    rintro w0 hw0
    have K0 : Blk w0 w.heap.size 70 #[.int .i64 0, .int .i64 0, .int .i64 0, .int .i64 0, .int .i64 0] := by rw [hw0]; exact Blk.new _ _ _
    have b0 : Below w.heap.size w w0 := by rw [hw0]; (repeat' (first | (with_reducible exact Below.refl _ _) | (with_reducible assumption) | (with_reducible refine Below.alloc ?_ ?_ _) | (with_reducible refine Below.drew ?_) | (with_reducible refine Below.setCell ?_ ?_ _) | (with_reducible refine bstep (by assumption) ?_ ?_) | (with_reducible exact Nat.le_refl _) | omega | (simp [*]; done) | (simp [*]; omega)))
    clear hw0
    have c1 := specJobsOk_any A n cap l w0 (hS.below b0) hl hn
    rw [hk] at c1
    refine c1.mono ?_
    rintro e w1 ⟨rfl, b1⟩
    have K1 := Lib.hid (K0.below b1)
    have f1 := bthen b0 b1
    unfold maxLen at hn
    have hL := Lib.hid hl
    have HS := Lib.hid hS
    clear c1 hk hl hS K0
    have hlo1 : w.heap.size < w1.heap.size := K1.out.lt
    go_wp2
    go_loopw [6] (fun i wr => ∃ k : Nat, k ≤ n ∧ i = .int .i64 k ∧ Below w.heap.size w wr ∧ Hid (wr = w1) ∧ Hid (∀ j, j < k → (l.getD j default).i ≠ key)) (fun i _ => n - (intOf i).toNat)
    case atStart => exact ⟨0, Nat.zero_le _, rfl, f1, by first | exact Lib.hid rfl | exact Lib.hid trivial, fun j hj => absurd hj (by omega)⟩
    case round =>
      obtain ⟨k, hk, rfl, hbl, hww, hall⟩ := hrel
      have hw1 := hww.out
      subst hw1
      by_cases hlt : k < n
      · obtain ⟨b, off, rfl, hb, hcell⟩ := sl_jobs HS.out (by omega)
        obtain ⟨h0, h1, h2, h3, h4⟩ := hcell k hlt
        clear hcell
        rw [← hbl.cell (by exact hb)] at h0 h1 h2 h3 h4
        generalize hpk : l.getD k default = pk at h0 h1 h2 h3 h4
        obtain ⟨x0, x1, x2, x3, x4⟩ := pk
        simp only at h0 h1 h2 h3 h4
        have H := Lib.hid hpk
        clear hpk
        have hbr : b < wr.heap.size := Nat.lt_of_lt_of_le hb hbl.size
        by_cases hx : x0 = key
        · subst hx
          have hva : jobAtV l x0 = (⟨x0, x1, x2, x3, x4⟩, true) := by rw [jobAtV_some (hL.out.symm ▸ hlt) hall.out (by rw [H.out]), H.out]
          have HV := Lib.hid hva
          clear hva
          have K1 := K1.out
          have lt1 := K1.lt
          obtain ⟨q0, q1, q2, q3, q4⟩ := bc5 K1
          have qf : ∀ o, wr.frozen? ⟨w.heap.size, o, none⟩ = false := fun o => K1.frozen o
          clear K1
          go_wp2
          refine bodyPost_ret (v := .tuple #[.agg #[.int .i64 x0, .int .i64 x1, .int .i64 x2, .int .i64 x3, .int .i64 x4], .bool true]) (by simp [results, Try.results49, go_sem, *]) rfl ⟨by rw [HV.out], by (repeat' (first | (with_reducible exact Below.refl _ _) | (with_reducible assumption) | (with_reducible refine Below.alloc ?_ ?_ _) | (with_reducible refine Below.drew ?_) | (with_reducible refine Below.setCell ?_ ?_ _) | (with_reducible refine bstep (by assumption) ?_ ?_) | (with_reducible exact Nat.le_refl _) | omega | (simp [*]; done) | (simp [*]; omega)))⟩
        · have hx' : (x0 == key) = false := by simpa using hx
          go_wp2
          exact ⟨⟨k + 1, by omega, by go_num, hbl, by first | exact Lib.hid rfl | exact Lib.hid trivial, below_uptoJ hall.out (by rw [H.out]; exact hx)⟩, by simp [intOf]; omega⟩
      · have hkn : k = n := by omega
        subst hkn
        have HV := Lib.hid (show jobAtV l key = (default, false) from jobAtV_none (hL.out.symm ▸ hall.out))
        have K1 := K1.out
        have lt1 := K1.lt
        obtain ⟨q0, q1, q2, q3, q4⟩ := bc5 K1
        have qf : ∀ o, wr.frozen? ⟨w.heap.size, o, none⟩ = false := fun o => K1.frozen o
        clear K1
        go_wp2
        refine bodyPost_ret (v := .tuple #[.agg #[.int .i64 0, .int .i64 0, .int .i64 0, .int .i64 0, .int .i64 0], .bool false]) (by simp [results, Try.results49, go_sem, *]) rfl ⟨by rw [HV.out]; rfl, by (repeat' (first | (with_reducible exact Below.refl _ _) | (with_reducible assumption) | (with_reducible refine Below.alloc ?_ ?_ _) | (with_reducible refine Below.drew ?_) | (with_reducible refine Below.setCell ?_ ?_ _) | (with_reducible refine bstep (by assumption) ?_ ?_) | (with_reducible exact Nat.le_refl _) | omega | (simp [*]; done) | (simp [*]; omega)))⟩
  · have hk' : jobsB l = false := by simpa using hk
    have hv : jobAtR l key = (default, false) := by unfold jobAtR; rw [if_neg hk]
    rw [hv]
    go_enter Try.func49, Try.ntmps49
    go_wp2_with fail
    refine calls_named ?_
    rintro w0 hw0
    have K0 : Blk w0 w.heap.size 70 #[.int .i64 0, .int .i64 0, .int .i64 0, .int .i64 0, .int .i64 0] := by rw [hw0]; exact Blk.new _ _ _
    have b0 : Below w.heap.size w w0 := by rw [hw0]; (repeat' (first | (with_reducible exact Below.refl _ _) | (with_reducible assumption) | (with_reducible refine Below.alloc ?_ ?_ _) | (with_reducible refine Below.drew ?_) | (with_reducible refine Below.setCell ?_ ?_ _) | (with_reducible refine bstep (by assumption) ?_ ?_) | (with_reducible exact Nat.le_refl _) | omega | (simp [*]; done) | (simp [*]; omega)))
    clear hw0
    have c1 := specJobsOk_any A n cap l w0 (hS.below b0) hl hn
    rw [hk'] at c1
    refine c1.mono ?_
    rintro e w1 ⟨rfl, b1⟩
    have K1 := K0.below b1
    have f1 := bthen b0 b1
    clear c1 hk hk' hv
    have lt1 := K1.lt
    obtain ⟨q0, q1, q2, q3, q4⟩ := bc5 K1
    have qf : ∀ o, w1.frozen? ⟨w.heap.size, o, none⟩ = false := fun o => K1.frozen o
    clear K1
    go_wp2
    refine bodyPost_ret (v := .tuple #[.agg #[.int .i64 0, .int .i64 0, .int .i64 0, .int .i64 0, .int .i64 0], .bool false]) (by simp [results, Try.results49, go_sem, *]) rfl ⟨rfl, by (repeat' (first | (with_reducible exact Below.refl _ _) | (with_reducible assumption) | (with_reducible refine Below.alloc ?_ ?_ _) | (with_reducible refine Below.drew ?_) | (with_reducible refine Below.setCell ?_ ?_ _) | (with_reducible refine bstep (by assumption) ?_ ?_) | (with_reducible exact Nat.le_refl _) | omega | (simp [*]; done) | (simp [*]; omega)))⟩
end Go.Proofs.Ytokklkmibjpjnaa
namespace Go.Proofs.Ytokklkmibjpjnaa
set_option linter.unusedSimpArgs false
set_option linter.unusedVariables false
attribute [local go_sem] n_lt2 n_lt3 n_lt4 n_le2 n_le3
open Go.RowKit
def firesB (l0 l1 l2 : Int) (ql : List Jb) (et ec ek ea eb : Int) : Bool := (ek == 4) && ((jobAtV ql ea).2 && (((jobAtV ql ea).1.f == 0) && (decide ((jobAtV ql ea).1.d ≤ et) && holdsB l0 l1 l2 ec eb et)))
def firesInB (i0 t0 l0 l1 l2 : Int) (pl : List Pr) (ql : List Jb) (ex et ec es ek ea eb eg eh : Int) : Bool := nextInB i0 t0 l0 l1 l2 pl ql ex et ec es ek ea eb eg eh && firesB l0 l1 l2 ql et ec ek ea eb
theorem firesB_at {l0 l1 l2 : Int} {ql : List Jb} {et ec ek ea eb : Int} {ji jd jk jv jf : Int} {ok : Bool} (hk : (ek == 4) = true) (hj : jobAtV ql ea = (⟨ji, jd, jk, jv, jf⟩, ok)) :
    firesB l0 l1 l2 ql et ec ek ea eb = (ok && ((jf == 0) && (decide (jd ≤ et) && holdsB l0 l1 l2 ec eb et))) := by
  unfold firesB; rw [hj, hk]; rfl
theorem nextInB_jobs {i0 t0 l0 l1 l2 : Int} {pl : List Pr} {ql : List Jb} {ex et ec es ek ea eb eg eh : Int} (h : nextInB i0 t0 l0 l1 l2 pl ql ex et ec es ek ea eb eg eh = true) : jobsB ql = true := by
  unfold nextInB stateB at h
  simp only [Bool.and_eq_true] at h
  exact h.1.2.2.2.1
attribute [local go_sem] Ext.cell Ext.frozen
set_option maxRecDepth 100000 in
set_option maxHeartbeats 2000000 in
theorem specFiresIn_any (A : Option Addr) (n c : Nat) (B : Option Addr) (m d : Nat) (i0 t0 l0 l1 l2 : Int) (pl : List Pr) (ql : List Jb) (ex et ec es ek ea eb eg eh : Int) (w : World) (hP : Sl w 2 A n (PR pl)) (hQ : Sl w 5 B m (JB ql)) (hl : pl.length = n) (hr : ql.length = m) (hn : n ≤ maxLen) (hm : m ≤ maxLen) :
    Calls Try.prog 75 #[.agg #[.int .i64 i0, .int .i64 t0, .slice A n c, .slice B m d, .int .i64 l0, .int .i64 l1, .int .i64 l2], .agg #[.int .i64 ex, .int .i64 et, .int .i64 ec, .int .i64 es, .int .i64 ek, .int .i64 ea, .int .i64 eb, .int .i64 eg, .int .i64 eh]] w fun e' w' => e' = .returned (.bool (firesInB i0 t0 l0 l1 l2 pl ql ex et ec es ek ea eb eg eh)) ∧ Below w.heap.size w w' := by
  have hL := Lib.hid hl
  have hR := Lib.hid hr
  have HP := Lib.hid hP
  have HQ := Lib.hid hQ
  clear hP hQ hl hr
  go_enter Try.func75, Try.ntmps75
  go_wp2_with fail
  refine calls_named ?_
  rintro v0 hv0
  have f0 : Below w.heap.size w v0 := by rw [hv0]; (repeat' (first | (with_reducible exact Below.refl _ _) | (with_reducible assumption) | (with_reducible refine Below.alloc ?_ ?_ _) | (with_reducible refine Below.drew ?_) | (with_reducible refine Below.setCell ?_ ?_ _) | (with_reducible refine bstep (by assumption) ?_ ?_) | (with_reducible exact Nat.le_refl _) | omega | (simp [*]; done) | (simp [*]; omega)))
  have z0 : w.heap.size + 2 ≤ v0.heap.size := by rw [hv0]; simp [size_set]
  have HP_0 := Lib.hid (HP.out.below f0)
  have HP_lt := Lib.hid (fun hn => HP.out.lt hn)
  have HQ_0 := Lib.hid (HQ.out.below f0)
  have HQ_lt := Lib.hid (fun hn => HQ.out.lt hn)
  have Ha_0 : Hid (Blk v0 w.heap.size 29 #[.int .i64 i0, .int .i64 t0, .slice A n c, .slice B m d, .int .i64 l0, .int .i64 l1, .int .i64 l2]) := by rw [hv0]; exact (Blk.new_at _ _ _ _ (by simp)).alloc _
  have Hb_0 : Hid (Blk v0 (w.heap.size + 1) 49 #[.int .i64 ex, .int .i64 et, .int .i64 ec, .int .i64 es, .int .i64 ek, .int .i64 ea, .int .i64 eb, .int .i64 eg, .int .i64 eh]) := by rw [hv0]; exact Blk.new_at _ _ _ _ (by simp)
  clear hv0
  generalize hg1 : w.heap.size + 1 = g1 at *
  have lg1 : w.heap.size < g1 := by omega
  have lgz : g1 < v0.heap.size := by omega
  have nq1x0 : ¬ g1 = w.heap.size := by omega
  have nq0x1 : ¬ w.heap.size = g1 := by omega
  clear hg1
  have lt_a := Ha_0.out.lt
  obtain ⟨r_a0, r_a1, r_a2, r_a3, r_a4, r_a5, r_a6⟩ := bc7 Ha_0.out
  have lt_b := Hb_0.out.lt
  obtain ⟨r_b0, r_b1, r_b2, r_b3, r_b4, r_b5, r_b6, r_b7, r_b8⟩ := bc9 Hb_0.out
  have cc := specNextIn_any A n c B m d i0 t0 l0 l1 l2 pl ql ex et ec es ek ea eb eg eh v0 HP_0.out HQ_0.out hL.out hR.out hn hm
  cases r0 : (nextInB i0 t0 l0 l1 l2 pl ql ex et ec es ek ea eb eg eh) with
  | false =>
    rw [r0] at cc
    have Hr0 := Lib.hid r0
    clear r0
    refine (cc).mono ?_
    rintro e v1 ⟨rfl, b1⟩
    have f1 := bthen f0 b1
    have z1 := b1.size
    have HP_1 := Lib.hid (HP_0.out.below b1)
    have HQ_1 := Lib.hid (HQ_0.out.below b1)
    have Ha_1 := Lib.hid (Ha_0.out.below b1)
    have Hb_1 := Lib.hid (Hb_0.out.below b1)
    clear lt_a r_a0 r_a1 r_a2 r_a3 r_a4 r_a5 r_a6 lt_b r_b0 r_b1 r_b2 r_b3 r_b4 r_b5 r_b6 r_b7 r_b8
    clear HP_0 HQ_0 Ha_0 Hb_0
    have lt_a := Ha_1.out.lt
    obtain ⟨r_a0, r_a1, r_a2, r_a3, r_a4, r_a5, r_a6⟩ := bc7 Ha_1.out
    have lt_b := Hb_1.out.lt
    obtain ⟨r_b0, r_b1, r_b2, r_b3, r_b4, r_b5, r_b6, r_b7, r_b8⟩ := bc9 Hb_1.out
    have hv : firesInB i0 t0 l0 l1 l2 pl ql ex et ec es ek ea eb eg eh = false := by unfold firesInB; rw [Hr0.out]; simp
    have HV := Lib.hid hv
    clear hv
    go_wp21
    go_ret
    exact ⟨ret_bool HV.out.symm, f1⟩
  | true =>
    rw [r0] at cc
    have Hr0 := Lib.hid r0
    clear r0
    refine (cc).mono ?_
    rintro e v1 ⟨rfl, b1⟩
    have f1 := bthen f0 b1
    have z1 := b1.size
    have HP_1 := Lib.hid (HP_0.out.below b1)
    have HQ_1 := Lib.hid (HQ_0.out.below b1)
    have Ha_1 := Lib.hid (Ha_0.out.below b1)
    have Hb_1 := Lib.hid (Hb_0.out.below b1)
    clear lt_a r_a0 r_a1 r_a2 r_a3 r_a4 r_a5 r_a6 lt_b r_b0 r_b1 r_b2 r_b3 r_b4 r_b5 r_b6 r_b7 r_b8
    clear HP_0 HQ_0 Ha_0 Hb_0
    have lt_a := Ha_1.out.lt
    obtain ⟨r_a0, r_a1, r_a2, r_a3, r_a4, r_a5, r_a6⟩ := bc7 Ha_1.out
    have lt_b := Hb_1.out.lt
    obtain ⟨r_b0, r_b1, r_b2, r_b3, r_b4, r_b5, r_b6, r_b7, r_b8⟩ := bc9 Hb_1.out
    clear cc
    have hx : firesInB i0 t0 l0 l1 l2 pl ql ex et ec es ek ea eb eg eh = firesB l0 l1 l2 ql et ec ek ea eb := by unfold firesInB; rw [Hr0.out]; rfl
    have HX := Lib.hid hx
    clear hx
    have HJR := Lib.hid (show jobAtR ql ea = jobAtV ql ea by unfold jobAtR; rw [if_pos (nextInB_jobs Hr0.out)])
    cases q1 : (ek == 4) with
    | false =>
      have n1 : (ek != 4) = true := by rw [bne, q1]; rfl
      have HV := Lib.hid (show firesInB i0 t0 l0 l1 l2 pl ql ex et ec es ek ea eb eg eh = false from HX.out.trans (show _ = false by unfold firesB; rw [q1]; rfl))
      go_wp21
      go_ret
      exact ⟨ret_bool HV.out.symm, f1⟩
    | true =>
      have n1 : (ek != 4) = false := by rw [bne, q1]; rfl
      have HK := Lib.hid q1
      have cc := specJobAt_any B m d ql ea v1 HQ_1.out hR.out hm
      rw [HJR.out] at cc
      obtain ⟨J, hj⟩ : ∃ J, J = jobAtV ql ea := ⟨_, rfl⟩
      rw [← hj] at cc
      obtain ⟨⟨ji, jd, jk, jv, jf⟩, ok⟩ := J
      have HE := Lib.hid (HX.out.trans (firesB_at (l0 := l0) (l1 := l1) (l2 := l2) (et := et) (ec := ec) (eb := eb) HK.out hj.symm))
      clear hj
      dsimp only at cc
      cases ok with
      | false =>
        go_wp2_with fail
        refine (cc).mono ?_
        rintro e v2 ⟨rfl, b2⟩
        have f2 := bthen f1 b2
        have z2 := b2.size
        have HP_2 := Lib.hid (HP_1.out.below b2)
        have HQ_2 := Lib.hid (HQ_1.out.below b2)
        have Ha_2 := Lib.hid (Ha_1.out.below b2)
        have Hb_2 := Lib.hid (Hb_1.out.below b2)
        clear lt_a r_a0 r_a1 r_a2 r_a3 r_a4 r_a5 r_a6 lt_b r_b0 r_b1 r_b2 r_b3 r_b4 r_b5 r_b6 r_b7 r_b8
        clear HP_1 HQ_1 Ha_1 Hb_1
        have lt_a := Ha_2.out.lt
        obtain ⟨r_a0, r_a1, r_a2, r_a3, r_a4, r_a5, r_a6⟩ := bc7 Ha_2.out
        have lt_b := Hb_2.out.lt
        obtain ⟨r_b0, r_b1, r_b2, r_b3, r_b4, r_b5, r_b6, r_b7, r_b8⟩ := bc9 Hb_2.out
        have HV := Lib.hid (show firesInB i0 t0 l0 l1 l2 pl ql ex et ec es ek ea eb eg eh = false from HE.out.trans (by simp))
        go_wp21
        go_ret
        exact ⟨ret_bool HV.out.symm, f2.alloc f2.size _⟩
      | true =>
        go_wp2_with fail
        refine (cc).mono ?_
        rintro e v2 ⟨rfl, b2⟩
        have f2 := bthen f1 b2
        have z2 := b2.size
        have HP_2 := Lib.hid (HP_1.out.below b2)
        have HQ_2 := Lib.hid (HQ_1.out.below b2)
        have Ha_2 := Lib.hid (Ha_1.out.below b2)
        have Hb_2 := Lib.hid (Hb_1.out.below b2)
        clear lt_a r_a0 r_a1 r_a2 r_a3 r_a4 r_a5 r_a6 lt_b r_b0 r_b1 r_b2 r_b3 r_b4 r_b5 r_b6 r_b7 r_b8
        clear HP_1 HQ_1 Ha_1 Hb_1
        clear cc
        have lt_a := Ha_2.out.lt
        obtain ⟨r_a0, r_a1, r_a2, r_a3, r_a4, r_a5, r_a6⟩ := bc7 Ha_2.out
        have lt_b := Hb_2.out.lt
        obtain ⟨r_b0, r_b1, r_b2, r_b3, r_b4, r_b5, r_b6, r_b7, r_b8⟩ := bc9 Hb_2.out
        cases s1 : (jf == 0) with
        | false =>
          have HE2 := Lib.hid (HE.out.trans (show _ = false by rw [s1]; simp))
          have HV := Lib.hid (show firesInB i0 t0 l0 l1 l2 pl ql ex et ec es ek ea eb eg eh = false from HE2.out)
          go_wp21
          go_ret
          exact ⟨ret_bool HV.out.symm, f2.alloc f2.size _⟩
        | true =>
          have S1 := Lib.hid s1
          by_cases s2 : jd ≤ et
          rotate_left
          · have s3 : et < jd := by omega
            have HE2 := Lib.hid (HE.out.trans (show _ = false by rw [decide_eq_false s2]; simp))
            have HV := Lib.hid (show firesInB i0 t0 l0 l1 l2 pl ql ex et ec es ek ea eb eg eh = false from HE2.out)
            go_wp21
            go_ret
            exact ⟨ret_bool HV.out.symm, f2.alloc f2.size _⟩
          have HE2 := Lib.hid (HE.out.trans (show _ = holdsB l0 l1 l2 ec eb et by rw [S1.out, decide_eq_true s2]; rfl))
          go_wp2_with fail
          refine calls_named ?_
          rintro v3 hv3
          have f3 : Below w.heap.size w v3 := by rw [hv3]; (repeat' (first | (with_reducible exact Below.refl _ _) | (with_reducible assumption) | (with_reducible refine Below.alloc ?_ ?_ _) | (with_reducible refine Below.drew ?_) | (with_reducible refine Below.setCell ?_ ?_ _) | (with_reducible refine bstep (by assumption) ?_ ?_) | (with_reducible exact Nat.le_refl _) | omega | (simp [*]; done) | (simp [*]; omega)))
          have z3 : v2.heap.size + 1 ≤ v3.heap.size := by rw [hv3]; simp [size_set]
          have HP_3 : Hid (Sl v3 2 A n (PR pl)) := by rw [hv3]; exact (HP_2.out).alloc _
          have HQ_3 : Hid (Sl v3 5 B m (JB ql)) := by rw [hv3]; exact (HQ_2.out).alloc _
          have Ha_3 : Hid (Blk v3 w.heap.size 29 #[.int .i64 i0, .int .i64 t0, .slice A n c, .slice B m d, .int .i64 l0, .int .i64 l1, .int .i64 l2]) := by rw [hv3]; exact (Ha_2.out).alloc _
          have Hb_3 : Hid (Blk v3 g1 49 #[.int .i64 ex, .int .i64 et, .int .i64 ec, .int .i64 es, .int .i64 ek, .int .i64 ea, .int .i64 eb, .int .i64 eg, .int .i64 eh]) := by rw [hv3]; exact (Hb_2.out).alloc _
          have Hj_3 : Hid (Blk v3 v2.heap.size 70 #[.int .i64 ji, .int .i64 jd, .int .i64 jk, .int .i64 jv, .int .i64 jf]) := by rw [hv3]; exact (Blk.new_at _ _ _ _ (by simp [size_set]))
          clear lt_a r_a0 r_a1 r_a2 r_a3 r_a4 r_a5 r_a6 lt_b r_b0 r_b1 r_b2 r_b3 r_b4 r_b5 r_b6 r_b7 r_b8
          clear hv3 HP_2 HQ_2 Ha_2 Hb_2
          have ch := specHoldsAt_any l0 l1 l2 ec eb et v3
          generalize holdsB l0 l1 l2 ec eb et = q at ch HE2
          have lt_a := Ha_3.out.lt
          obtain ⟨r_a0, r_a1, r_a2, r_a3, r_a4, r_a5, r_a6⟩ := bc7 Ha_3.out
          have lt_b := Hb_3.out.lt
          obtain ⟨r_b0, r_b1, r_b2, r_b3, r_b4, r_b5, r_b6, r_b7, r_b8⟩ := bc9 Hb_3.out
          have lt_j := Hj_3.out.lt
          obtain ⟨r_j0, r_j1, r_j2, r_j3, r_j4⟩ := bc5 Hj_3.out
          refine (ch).mono ?_
          rintro e v4 ⟨rfl, b4⟩
          have f4 := bthen f3 b4
          have z4 := b4.size
          have HP_4 := Lib.hid (HP_3.out.below b4)
          have HQ_4 := Lib.hid (HQ_3.out.below b4)
          have Ha_4 := Lib.hid (Ha_3.out.below b4)
          have Hb_4 := Lib.hid (Hb_3.out.below b4)
          have Hj_4 := Lib.hid (Hj_3.out.below b4)
          clear lt_a r_a0 r_a1 r_a2 r_a3 r_a4 r_a5 r_a6 lt_b r_b0 r_b1 r_b2 r_b3 r_b4 r_b5 r_b6 r_b7 r_b8 lt_j r_j0 r_j1 r_j2 r_j3 r_j4
          clear HP_3 HQ_3 Ha_3 Hb_3 Hj_3
          clear ch
          have lt_a := Ha_4.out.lt
          obtain ⟨r_a0, r_a1, r_a2, r_a3, r_a4, r_a5, r_a6⟩ := bc7 Ha_4.out
          have lt_b := Hb_4.out.lt
          obtain ⟨r_b0, r_b1, r_b2, r_b3, r_b4, r_b5, r_b6, r_b7, r_b8⟩ := bc9 Hb_4.out
          have lt_j := Hj_4.out.lt
          obtain ⟨r_j0, r_j1, r_j2, r_j3, r_j4⟩ := bc5 Hj_4.out
          go_wp21
          go_ret
          exact ⟨ret_bool HE2.out.symm, f4⟩
end Go.Proofs.Ytokklkmibjpjnaa
namespace Go.Proofs.Ytokklkmibjpjnaa
set_option linter.unusedSimpArgs false
set_option linter.unusedVariables false
attribute [local go_sem] n_lt2 n_lt3 n_lt4 n_le2 n_le3
open Go.RowKit
attribute [local go_sem] Ext.cell Ext.frozen
theorem LC.drew {w : World} {p C : Nat} (h : LC w p C) : LC w.drew p C := h
/-- What lives through a draw: the state's box, the result's, the dice. -/
structure NY (w0 w : World) (p gs gr E : Nat) (cs rs : Array Value) : Prop where
  s : Blk w gs 29 cs
  r : Blk w gr E rs
  d : LC w p 74
  f : Wrote w0 w (some ⟨p, 0, none⟩)
  ps : p < gs
  pr : p < gr
theorem wrote_u {w w' : World} {A : Option Addr} (h : Wrote w.drew w' A) : Wrote w w' A := ⟨h.os, h.tape, h.output, h.size, h.block⟩
section
variable {w0 w w' : World} {p gs gr E : Nat} {cs rs : Array Value}
theorem NY.dice (h : NY w0 w p gs gr E cs rs) (hw : Wrote w w' (some ⟨p, 0, none⟩)) (hd : LC w' p 74) : NY w0 w' p gs gr E cs rs :=
  ⟨h.s.wrote2 hw (Nat.ne_of_gt h.ps), h.r.wrote2 hw (Nat.ne_of_gt h.pr), hd, wrote_trans h.f hw, h.ps, h.pr⟩
theorem NY.below (h : NY w0 w p gs gr E cs rs) (hb : Below w.heap.size w w') : NY w0 w' p gs gr E cs rs :=
  ⟨h.s.below hb, h.r.below hb, h.d.new hb, wrote_then h.f hb, h.ps, h.pr⟩
theorem NY.alloc (h : NY w0 w p gs gr E cs rs) (o : Obj) : NY w0 (w.alloc o) p gs gr E cs rs := h.below ((Below.refl _ _).alloc (Nat.le_refl _) o)
theorem NY.drew (h : NY w0 w p gs gr E cs rs) : NY w0 w.drew p gs gr E cs rs := h.below (Below.drew (Below.refl _ _))
theorem NY.far (h : NY w0 w p gs gr E cs rs) {g : Nat} (h0 : w0.heap.size ≤ g) (h1 : gs ≠ g) (h2 : gr ≠ g) (h3 : p < g) (j : Nat) (u : Value) : NY w0 (w.setCell ⟨g, j, none⟩ u) p gs gr E cs rs :=
  ⟨h.s.far h1 u, h.r.far h2 u, h.d.far h3 u, wrote_grow h.f (Below.setCell (Below.refl _ w) (p := ⟨g, j, none⟩) h0 u) (Nat.le_refl _), h.ps, h.pr⟩
theorem NY.far5 (h : NY w0 w p gs gr E cs rs) {g : Nat} (h0 : w0.heap.size ≤ g) (h1 : gs ≠ g) (h2 : gr ≠ g) (h3 : p < g) (y0 y1 y2 y3 y4 : Value) : NY w0 (World.setCell (World.setCell (World.setCell (World.setCell (World.setCell w ⟨g, 0, none⟩ y0) ⟨g, 1, none⟩ y1) ⟨g, 2, none⟩ y2) ⟨g, 3, none⟩ y3) ⟨g, 4, none⟩ y4) p gs gr E cs rs := by
  have k0 : NY w0 (World.setCell w ⟨g, 0, none⟩ y0) p gs gr E cs rs := h.far h0 h1 h2 h3 0 y0
  have k1 : NY w0 (World.setCell (World.setCell w ⟨g, 0, none⟩ y0) ⟨g, 1, none⟩ y1) p gs gr E cs rs := k0.far h0 h1 h2 h3 1 y1
  have k2 : NY w0 (World.setCell (World.setCell (World.setCell w ⟨g, 0, none⟩ y0) ⟨g, 1, none⟩ y1) ⟨g, 2, none⟩ y2) p gs gr E cs rs := k1.far h0 h1 h2 h3 2 y2
  have k3 : NY w0 (World.setCell (World.setCell (World.setCell (World.setCell w ⟨g, 0, none⟩ y0) ⟨g, 1, none⟩ y1) ⟨g, 2, none⟩ y2) ⟨g, 3, none⟩ y3) p gs gr E cs rs := k2.far h0 h1 h2 h3 3 y3
  have k4 : NY w0 (World.setCell (World.setCell (World.setCell (World.setCell (World.setCell w ⟨g, 0, none⟩ y0) ⟨g, 1, none⟩ y1) ⟨g, 2, none⟩ y2) ⟨g, 3, none⟩ y3) ⟨g, 4, none⟩ y4) p gs gr E cs rs := k3.far h0 h1 h2 h3 4 y4
  exact k4
end
theorem blk_setn5 {v : World} {gr E : Nat} {z0 z1 z2 z3 z4 : Value} (K : Blk v gr E #[z0, z1, z2, z3, z4]) (y0 y1 y2 y3 y4 : Value) : Blk (World.setCell (World.setCell (World.setCell (World.setCell (World.setCell v ⟨gr, 0, none⟩ y0) ⟨gr, 1, none⟩ y1) ⟨gr, 2, none⟩ y2) ⟨gr, 3, none⟩ y3) ⟨gr, 4, none⟩ y4) gr E #[y0, y1, y2, y3, y4] := by
  have k0 : Blk (World.setCell v ⟨gr, 0, none⟩ y0) gr E #[y0, z1, z2, z3, z4] := K.set_ 0 y0
  have k1 : Blk (World.setCell (World.setCell v ⟨gr, 0, none⟩ y0) ⟨gr, 1, none⟩ y1) gr E #[y0, y1, z2, z3, z4] := k0.set_ 1 y1
  have k2 : Blk (World.setCell (World.setCell (World.setCell v ⟨gr, 0, none⟩ y0) ⟨gr, 1, none⟩ y1) ⟨gr, 2, none⟩ y2) gr E #[y0, y1, y2, z3, z4] := k1.set_ 2 y2
  have k3 : Blk (World.setCell (World.setCell (World.setCell (World.setCell v ⟨gr, 0, none⟩ y0) ⟨gr, 1, none⟩ y1) ⟨gr, 2, none⟩ y2) ⟨gr, 3, none⟩ y3) gr E #[y0, y1, y2, y3, z4] := k2.set_ 3 y3
  have k4 : Blk (World.setCell (World.setCell (World.setCell (World.setCell (World.setCell v ⟨gr, 0, none⟩ y0) ⟨gr, 1, none⟩ y1) ⟨gr, 2, none⟩ y2) ⟨gr, 3, none⟩ y3) ⟨gr, 4, none⟩ y4) gr E #[y0, y1, y2, y3, y4] := k3.set_ 4 y4
  exact k4
theorem lc_setn5 {v : World} {p gr D : Nat} (H : LC v p D) (hp : p < gr) (y0 y1 y2 y3 y4 : Value) : LC (World.setCell (World.setCell (World.setCell (World.setCell (World.setCell v ⟨gr, 0, none⟩ y0) ⟨gr, 1, none⟩ y1) ⟨gr, 2, none⟩ y2) ⟨gr, 3, none⟩ y3) ⟨gr, 4, none⟩ y4) p D := by
  have k0 : LC (World.setCell v ⟨gr, 0, none⟩ y0) p D := H.far (q := ⟨gr, 0, none⟩) hp y0
  have k1 : LC (World.setCell (World.setCell v ⟨gr, 0, none⟩ y0) ⟨gr, 1, none⟩ y1) p D := k0.far (q := ⟨gr, 1, none⟩) hp y1
  have k2 : LC (World.setCell (World.setCell (World.setCell v ⟨gr, 0, none⟩ y0) ⟨gr, 1, none⟩ y1) ⟨gr, 2, none⟩ y2) p D := k1.far (q := ⟨gr, 2, none⟩) hp y2
  have k3 : LC (World.setCell (World.setCell (World.setCell (World.setCell v ⟨gr, 0, none⟩ y0) ⟨gr, 1, none⟩ y1) ⟨gr, 2, none⟩ y2) ⟨gr, 3, none⟩ y3) p D := k2.far (q := ⟨gr, 3, none⟩) hp y3
  have k4 : LC (World.setCell (World.setCell (World.setCell (World.setCell (World.setCell v ⟨gr, 0, none⟩ y0) ⟨gr, 1, none⟩ y1) ⟨gr, 2, none⟩ y2) ⟨gr, 3, none⟩ y3) ⟨gr, 4, none⟩ y4) p D := k3.far (q := ⟨gr, 4, none⟩) hp y4
  exact k4
theorem below_setn5 {v : World} {lo gr : Nat} (h0 : lo ≤ gr) (y0 y1 y2 y3 y4 : Value) : Below lo v (World.setCell (World.setCell (World.setCell (World.setCell (World.setCell v ⟨gr, 0, none⟩ y0) ⟨gr, 1, none⟩ y1) ⟨gr, 2, none⟩ y2) ⟨gr, 3, none⟩ y3) ⟨gr, 4, none⟩ y4) := by
  have k0 : Below lo v (World.setCell v ⟨gr, 0, none⟩ y0) := (Below.refl lo v).setCell (p := ⟨gr, 0, none⟩) h0 y0
  have k1 : Below lo v (World.setCell (World.setCell v ⟨gr, 0, none⟩ y0) ⟨gr, 1, none⟩ y1) := k0.setCell (p := ⟨gr, 1, none⟩) h0 y1
  have k2 : Below lo v (World.setCell (World.setCell (World.setCell v ⟨gr, 0, none⟩ y0) ⟨gr, 1, none⟩ y1) ⟨gr, 2, none⟩ y2) := k1.setCell (p := ⟨gr, 2, none⟩) h0 y2
  have k3 : Below lo v (World.setCell (World.setCell (World.setCell (World.setCell v ⟨gr, 0, none⟩ y0) ⟨gr, 1, none⟩ y1) ⟨gr, 2, none⟩ y2) ⟨gr, 3, none⟩ y3) := k2.setCell (p := ⟨gr, 3, none⟩) h0 y3
  have k4 : Below lo v (World.setCell (World.setCell (World.setCell (World.setCell (World.setCell v ⟨gr, 0, none⟩ y0) ⟨gr, 1, none⟩ y1) ⟨gr, 2, none⟩ y2) ⟨gr, 3, none⟩ y3) ⟨gr, 4, none⟩ y4) := k3.setCell (p := ⟨gr, 4, none⟩) h0 y4
  exact k4
theorem ny_end5 {Q : Exit → Act → World → Prop} {e : Exit} {a : Act} {w v : World} {p s gr E : Nat} {cs : Array Value} {y0 y1 y2 y3 y4 z0 z1 z2 z3 z4 : Value} (H : NY w v p s gr E cs #[z0, z1, z2, z3, z4]) (h0 : w.heap.size ≤ gr) (h : ∀ v1, Blk v1 gr E #[y0, y1, y2, y3, y4] → LC v1 p 74 → Wrote w v1 (some ⟨p, 0, none⟩) → Q e a v1) : Q e a (World.setCell (World.setCell (World.setCell (World.setCell (World.setCell v ⟨gr, 0, none⟩ y0) ⟨gr, 1, none⟩ y1) ⟨gr, 2, none⟩ y2) ⟨gr, 3, none⟩ y3) ⟨gr, 4, none⟩ y4) := h _ (blk_setn5 H.r _ _ _ _ _) (lc_setn5 H.d H.pr _ _ _ _ _) (wrote_grow H.f (below_setn5 h0 _ _ _ _ _) (Nat.le_refl _))
theorem far5c (v : World) {gr b : Nat} (o : Nat) (y0 y1 y2 y3 y4 : Value) (h : ¬ b = gr) : World.cell? (World.setCell (World.setCell (World.setCell (World.setCell (World.setCell v ⟨gr, 0, none⟩ y0) ⟨gr, 1, none⟩ y1) ⟨gr, 2, none⟩ y2) ⟨gr, 3, none⟩ y3) ⟨gr, 4, none⟩ y4) ⟨b, o, none⟩ = v.cell? ⟨b, o, none⟩ := by
  have hn : gr ≠ b := fun e => h e.symm
  rw [World.cell?_setCell_far _ _ _ _ hn, World.cell?_setCell_far _ _ _ _ hn, World.cell?_setCell_far _ _ _ _ hn, World.cell?_setCell_far _ _ _ _ hn, World.cell?_setCell_far _ _ _ _ hn]
theorem blk_setn9 {v : World} {gr E : Nat} {z0 z1 z2 z3 z4 z5 z6 z7 z8 : Value} (K : Blk v gr E #[z0, z1, z2, z3, z4, z5, z6, z7, z8]) (y0 y1 y2 y3 y4 y5 y6 y7 y8 : Value) : Blk (World.setCell (World.setCell (World.setCell (World.setCell (World.setCell (World.setCell (World.setCell (World.setCell (World.setCell v ⟨gr, 0, none⟩ y0) ⟨gr, 1, none⟩ y1) ⟨gr, 2, none⟩ y2) ⟨gr, 3, none⟩ y3) ⟨gr, 4, none⟩ y4) ⟨gr, 5, none⟩ y5) ⟨gr, 6, none⟩ y6) ⟨gr, 7, none⟩ y7) ⟨gr, 8, none⟩ y8) gr E #[y0, y1, y2, y3, y4, y5, y6, y7, y8] := by
  have k0 : Blk (World.setCell v ⟨gr, 0, none⟩ y0) gr E #[y0, z1, z2, z3, z4, z5, z6, z7, z8] := K.set_ 0 y0
  have k1 : Blk (World.setCell (World.setCell v ⟨gr, 0, none⟩ y0) ⟨gr, 1, none⟩ y1) gr E #[y0, y1, z2, z3, z4, z5, z6, z7, z8] := k0.set_ 1 y1
  have k2 : Blk (World.setCell (World.setCell (World.setCell v ⟨gr, 0, none⟩ y0) ⟨gr, 1, none⟩ y1) ⟨gr, 2, none⟩ y2) gr E #[y0, y1, y2, z3, z4, z5, z6, z7, z8] := k1.set_ 2 y2
  have k3 : Blk (World.setCell (World.setCell (World.setCell (World.setCell v ⟨gr, 0, none⟩ y0) ⟨gr, 1, none⟩ y1) ⟨gr, 2, none⟩ y2) ⟨gr, 3, none⟩ y3) gr E #[y0, y1, y2, y3, z4, z5, z6, z7, z8] := k2.set_ 3 y3
  have k4 : Blk (World.setCell (World.setCell (World.setCell (World.setCell (World.setCell v ⟨gr, 0, none⟩ y0) ⟨gr, 1, none⟩ y1) ⟨gr, 2, none⟩ y2) ⟨gr, 3, none⟩ y3) ⟨gr, 4, none⟩ y4) gr E #[y0, y1, y2, y3, y4, z5, z6, z7, z8] := k3.set_ 4 y4
  have k5 : Blk (World.setCell (World.setCell (World.setCell (World.setCell (World.setCell (World.setCell v ⟨gr, 0, none⟩ y0) ⟨gr, 1, none⟩ y1) ⟨gr, 2, none⟩ y2) ⟨gr, 3, none⟩ y3) ⟨gr, 4, none⟩ y4) ⟨gr, 5, none⟩ y5) gr E #[y0, y1, y2, y3, y4, y5, z6, z7, z8] := k4.set_ 5 y5
  have k6 : Blk (World.setCell (World.setCell (World.setCell (World.setCell (World.setCell (World.setCell (World.setCell v ⟨gr, 0, none⟩ y0) ⟨gr, 1, none⟩ y1) ⟨gr, 2, none⟩ y2) ⟨gr, 3, none⟩ y3) ⟨gr, 4, none⟩ y4) ⟨gr, 5, none⟩ y5) ⟨gr, 6, none⟩ y6) gr E #[y0, y1, y2, y3, y4, y5, y6, z7, z8] := k5.set_ 6 y6
  have k7 : Blk (World.setCell (World.setCell (World.setCell (World.setCell (World.setCell (World.setCell (World.setCell (World.setCell v ⟨gr, 0, none⟩ y0) ⟨gr, 1, none⟩ y1) ⟨gr, 2, none⟩ y2) ⟨gr, 3, none⟩ y3) ⟨gr, 4, none⟩ y4) ⟨gr, 5, none⟩ y5) ⟨gr, 6, none⟩ y6) ⟨gr, 7, none⟩ y7) gr E #[y0, y1, y2, y3, y4, y5, y6, y7, z8] := k6.set_ 7 y7
  have k8 : Blk (World.setCell (World.setCell (World.setCell (World.setCell (World.setCell (World.setCell (World.setCell (World.setCell (World.setCell v ⟨gr, 0, none⟩ y0) ⟨gr, 1, none⟩ y1) ⟨gr, 2, none⟩ y2) ⟨gr, 3, none⟩ y3) ⟨gr, 4, none⟩ y4) ⟨gr, 5, none⟩ y5) ⟨gr, 6, none⟩ y6) ⟨gr, 7, none⟩ y7) ⟨gr, 8, none⟩ y8) gr E #[y0, y1, y2, y3, y4, y5, y6, y7, y8] := k7.set_ 8 y8
  exact k8
theorem lc_setn9 {v : World} {p gr D : Nat} (H : LC v p D) (hp : p < gr) (y0 y1 y2 y3 y4 y5 y6 y7 y8 : Value) : LC (World.setCell (World.setCell (World.setCell (World.setCell (World.setCell (World.setCell (World.setCell (World.setCell (World.setCell v ⟨gr, 0, none⟩ y0) ⟨gr, 1, none⟩ y1) ⟨gr, 2, none⟩ y2) ⟨gr, 3, none⟩ y3) ⟨gr, 4, none⟩ y4) ⟨gr, 5, none⟩ y5) ⟨gr, 6, none⟩ y6) ⟨gr, 7, none⟩ y7) ⟨gr, 8, none⟩ y8) p D := by
  have k0 : LC (World.setCell v ⟨gr, 0, none⟩ y0) p D := H.far (q := ⟨gr, 0, none⟩) hp y0
  have k1 : LC (World.setCell (World.setCell v ⟨gr, 0, none⟩ y0) ⟨gr, 1, none⟩ y1) p D := k0.far (q := ⟨gr, 1, none⟩) hp y1
  have k2 : LC (World.setCell (World.setCell (World.setCell v ⟨gr, 0, none⟩ y0) ⟨gr, 1, none⟩ y1) ⟨gr, 2, none⟩ y2) p D := k1.far (q := ⟨gr, 2, none⟩) hp y2
  have k3 : LC (World.setCell (World.setCell (World.setCell (World.setCell v ⟨gr, 0, none⟩ y0) ⟨gr, 1, none⟩ y1) ⟨gr, 2, none⟩ y2) ⟨gr, 3, none⟩ y3) p D := k2.far (q := ⟨gr, 3, none⟩) hp y3
  have k4 : LC (World.setCell (World.setCell (World.setCell (World.setCell (World.setCell v ⟨gr, 0, none⟩ y0) ⟨gr, 1, none⟩ y1) ⟨gr, 2, none⟩ y2) ⟨gr, 3, none⟩ y3) ⟨gr, 4, none⟩ y4) p D := k3.far (q := ⟨gr, 4, none⟩) hp y4
  have k5 : LC (World.setCell (World.setCell (World.setCell (World.setCell (World.setCell (World.setCell v ⟨gr, 0, none⟩ y0) ⟨gr, 1, none⟩ y1) ⟨gr, 2, none⟩ y2) ⟨gr, 3, none⟩ y3) ⟨gr, 4, none⟩ y4) ⟨gr, 5, none⟩ y5) p D := k4.far (q := ⟨gr, 5, none⟩) hp y5
  have k6 : LC (World.setCell (World.setCell (World.setCell (World.setCell (World.setCell (World.setCell (World.setCell v ⟨gr, 0, none⟩ y0) ⟨gr, 1, none⟩ y1) ⟨gr, 2, none⟩ y2) ⟨gr, 3, none⟩ y3) ⟨gr, 4, none⟩ y4) ⟨gr, 5, none⟩ y5) ⟨gr, 6, none⟩ y6) p D := k5.far (q := ⟨gr, 6, none⟩) hp y6
  have k7 : LC (World.setCell (World.setCell (World.setCell (World.setCell (World.setCell (World.setCell (World.setCell (World.setCell v ⟨gr, 0, none⟩ y0) ⟨gr, 1, none⟩ y1) ⟨gr, 2, none⟩ y2) ⟨gr, 3, none⟩ y3) ⟨gr, 4, none⟩ y4) ⟨gr, 5, none⟩ y5) ⟨gr, 6, none⟩ y6) ⟨gr, 7, none⟩ y7) p D := k6.far (q := ⟨gr, 7, none⟩) hp y7
  have k8 : LC (World.setCell (World.setCell (World.setCell (World.setCell (World.setCell (World.setCell (World.setCell (World.setCell (World.setCell v ⟨gr, 0, none⟩ y0) ⟨gr, 1, none⟩ y1) ⟨gr, 2, none⟩ y2) ⟨gr, 3, none⟩ y3) ⟨gr, 4, none⟩ y4) ⟨gr, 5, none⟩ y5) ⟨gr, 6, none⟩ y6) ⟨gr, 7, none⟩ y7) ⟨gr, 8, none⟩ y8) p D := k7.far (q := ⟨gr, 8, none⟩) hp y8
  exact k8
theorem below_setn9 {v : World} {lo gr : Nat} (h0 : lo ≤ gr) (y0 y1 y2 y3 y4 y5 y6 y7 y8 : Value) : Below lo v (World.setCell (World.setCell (World.setCell (World.setCell (World.setCell (World.setCell (World.setCell (World.setCell (World.setCell v ⟨gr, 0, none⟩ y0) ⟨gr, 1, none⟩ y1) ⟨gr, 2, none⟩ y2) ⟨gr, 3, none⟩ y3) ⟨gr, 4, none⟩ y4) ⟨gr, 5, none⟩ y5) ⟨gr, 6, none⟩ y6) ⟨gr, 7, none⟩ y7) ⟨gr, 8, none⟩ y8) := by
  have k0 : Below lo v (World.setCell v ⟨gr, 0, none⟩ y0) := (Below.refl lo v).setCell (p := ⟨gr, 0, none⟩) h0 y0
  have k1 : Below lo v (World.setCell (World.setCell v ⟨gr, 0, none⟩ y0) ⟨gr, 1, none⟩ y1) := k0.setCell (p := ⟨gr, 1, none⟩) h0 y1
  have k2 : Below lo v (World.setCell (World.setCell (World.setCell v ⟨gr, 0, none⟩ y0) ⟨gr, 1, none⟩ y1) ⟨gr, 2, none⟩ y2) := k1.setCell (p := ⟨gr, 2, none⟩) h0 y2
  have k3 : Below lo v (World.setCell (World.setCell (World.setCell (World.setCell v ⟨gr, 0, none⟩ y0) ⟨gr, 1, none⟩ y1) ⟨gr, 2, none⟩ y2) ⟨gr, 3, none⟩ y3) := k2.setCell (p := ⟨gr, 3, none⟩) h0 y3
  have k4 : Below lo v (World.setCell (World.setCell (World.setCell (World.setCell (World.setCell v ⟨gr, 0, none⟩ y0) ⟨gr, 1, none⟩ y1) ⟨gr, 2, none⟩ y2) ⟨gr, 3, none⟩ y3) ⟨gr, 4, none⟩ y4) := k3.setCell (p := ⟨gr, 4, none⟩) h0 y4
  have k5 : Below lo v (World.setCell (World.setCell (World.setCell (World.setCell (World.setCell (World.setCell v ⟨gr, 0, none⟩ y0) ⟨gr, 1, none⟩ y1) ⟨gr, 2, none⟩ y2) ⟨gr, 3, none⟩ y3) ⟨gr, 4, none⟩ y4) ⟨gr, 5, none⟩ y5) := k4.setCell (p := ⟨gr, 5, none⟩) h0 y5
  have k6 : Below lo v (World.setCell (World.setCell (World.setCell (World.setCell (World.setCell (World.setCell (World.setCell v ⟨gr, 0, none⟩ y0) ⟨gr, 1, none⟩ y1) ⟨gr, 2, none⟩ y2) ⟨gr, 3, none⟩ y3) ⟨gr, 4, none⟩ y4) ⟨gr, 5, none⟩ y5) ⟨gr, 6, none⟩ y6) := k5.setCell (p := ⟨gr, 6, none⟩) h0 y6
  have k7 : Below lo v (World.setCell (World.setCell (World.setCell (World.setCell (World.setCell (World.setCell (World.setCell (World.setCell v ⟨gr, 0, none⟩ y0) ⟨gr, 1, none⟩ y1) ⟨gr, 2, none⟩ y2) ⟨gr, 3, none⟩ y3) ⟨gr, 4, none⟩ y4) ⟨gr, 5, none⟩ y5) ⟨gr, 6, none⟩ y6) ⟨gr, 7, none⟩ y7) := k6.setCell (p := ⟨gr, 7, none⟩) h0 y7
  have k8 : Below lo v (World.setCell (World.setCell (World.setCell (World.setCell (World.setCell (World.setCell (World.setCell (World.setCell (World.setCell v ⟨gr, 0, none⟩ y0) ⟨gr, 1, none⟩ y1) ⟨gr, 2, none⟩ y2) ⟨gr, 3, none⟩ y3) ⟨gr, 4, none⟩ y4) ⟨gr, 5, none⟩ y5) ⟨gr, 6, none⟩ y6) ⟨gr, 7, none⟩ y7) ⟨gr, 8, none⟩ y8) := k7.setCell (p := ⟨gr, 8, none⟩) h0 y8
  exact k8
theorem ny_end9 {Q : Exit → Act → World → Prop} {e : Exit} {a : Act} {w v : World} {p s gr E : Nat} {cs : Array Value} {y0 y1 y2 y3 y4 y5 y6 y7 y8 z0 z1 z2 z3 z4 z5 z6 z7 z8 : Value} (H : NY w v p s gr E cs #[z0, z1, z2, z3, z4, z5, z6, z7, z8]) (h0 : w.heap.size ≤ gr) (h : ∀ v1, Blk v1 gr E #[y0, y1, y2, y3, y4, y5, y6, y7, y8] → LC v1 p 74 → Wrote w v1 (some ⟨p, 0, none⟩) → Q e a v1) : Q e a (World.setCell (World.setCell (World.setCell (World.setCell (World.setCell (World.setCell (World.setCell (World.setCell (World.setCell v ⟨gr, 0, none⟩ y0) ⟨gr, 1, none⟩ y1) ⟨gr, 2, none⟩ y2) ⟨gr, 3, none⟩ y3) ⟨gr, 4, none⟩ y4) ⟨gr, 5, none⟩ y5) ⟨gr, 6, none⟩ y6) ⟨gr, 7, none⟩ y7) ⟨gr, 8, none⟩ y8) := h _ (blk_setn9 H.r _ _ _ _ _ _ _ _ _) (lc_setn9 H.d H.pr _ _ _ _ _ _ _ _ _) (wrote_grow H.f (below_setn9 h0 _ _ _ _ _ _ _ _ _) (Nat.le_refl _))
theorem far9c (v : World) {gr b : Nat} (o : Nat) (y0 y1 y2 y3 y4 y5 y6 y7 y8 : Value) (h : ¬ b = gr) : World.cell? (World.setCell (World.setCell (World.setCell (World.setCell (World.setCell (World.setCell (World.setCell (World.setCell (World.setCell v ⟨gr, 0, none⟩ y0) ⟨gr, 1, none⟩ y1) ⟨gr, 2, none⟩ y2) ⟨gr, 3, none⟩ y3) ⟨gr, 4, none⟩ y4) ⟨gr, 5, none⟩ y5) ⟨gr, 6, none⟩ y6) ⟨gr, 7, none⟩ y7) ⟨gr, 8, none⟩ y8) ⟨b, o, none⟩ = v.cell? ⟨b, o, none⟩ := by
  have hn : gr ≠ b := fun e => h e.symm
  rw [World.cell?_setCell_far _ _ _ _ hn, World.cell?_setCell_far _ _ _ _ hn, World.cell?_setCell_far _ _ _ _ hn, World.cell?_setCell_far _ _ _ _ hn, World.cell?_setCell_far _ _ _ _ hn, World.cell?_setCell_far _ _ _ _ hn, World.cell?_setCell_far _ _ _ _ hn, World.cell?_setCell_far _ _ _ _ hn, World.cell?_setCell_far _ _ _ _ hn]
theorem s1_far {v : World} {gr b : Nat} {x0 y0 y1 y2 y3 y4 : Value} (hc : v.cell? ⟨b, 1, none⟩ = some x0) (hb : ¬ b = gr) : World.cell? (World.setCell (World.setCell (World.setCell (World.setCell (World.setCell v ⟨gr, 0, none⟩ y0) ⟨gr, 1, none⟩ y1) ⟨gr, 2, none⟩ y2) ⟨gr, 3, none⟩ y3) ⟨gr, 4, none⟩ y4) ⟨b, 1, none⟩ = some x0 := (far5c v 1 _ _ _ _ _ hb).trans hc
theorem s7_far {v : World} {gr b k : Nat} {x0 z0 z1 z2 z3 z4 y0 y1 y2 y3 y4 y5 y6 y7 y8 : Value} (hc : v.cell? ⟨b, 0, none⟩ = some x0 ∧ v.cell? ⟨k, 0, none⟩ = some z0 ∧ v.cell? ⟨k, 1, none⟩ = some z1 ∧ v.cell? ⟨k, 2, none⟩ = some z2 ∧ v.cell? ⟨k, 3, none⟩ = some z3 ∧ v.cell? ⟨k, 4, none⟩ = some z4) (hb : ¬ b = gr) (hk : ¬ k = gr) : World.cell? (World.setCell (World.setCell (World.setCell (World.setCell (World.setCell (World.setCell (World.setCell (World.setCell (World.setCell v ⟨gr, 0, none⟩ y0) ⟨gr, 1, none⟩ y1) ⟨gr, 2, none⟩ y2) ⟨gr, 3, none⟩ y3) ⟨gr, 4, none⟩ y4) ⟨gr, 5, none⟩ y5) ⟨gr, 6, none⟩ y6) ⟨gr, 7, none⟩ y7) ⟨gr, 8, none⟩ y8) ⟨b, 0, none⟩ = some x0 ∧ World.cell? (World.setCell (World.setCell (World.setCell (World.setCell (World.setCell (World.setCell (World.setCell (World.setCell (World.setCell v ⟨gr, 0, none⟩ y0) ⟨gr, 1, none⟩ y1) ⟨gr, 2, none⟩ y2) ⟨gr, 3, none⟩ y3) ⟨gr, 4, none⟩ y4) ⟨gr, 5, none⟩ y5) ⟨gr, 6, none⟩ y6) ⟨gr, 7, none⟩ y7) ⟨gr, 8, none⟩ y8) ⟨k, 0, none⟩ = some z0 ∧ World.cell? (World.setCell (World.setCell (World.setCell (World.setCell (World.setCell (World.setCell (World.setCell (World.setCell (World.setCell v ⟨gr, 0, none⟩ y0) ⟨gr, 1, none⟩ y1) ⟨gr, 2, none⟩ y2) ⟨gr, 3, none⟩ y3) ⟨gr, 4, none⟩ y4) ⟨gr, 5, none⟩ y5) ⟨gr, 6, none⟩ y6) ⟨gr, 7, none⟩ y7) ⟨gr, 8, none⟩ y8) ⟨k, 1, none⟩ = some z1 ∧ World.cell? (World.setCell (World.setCell (World.setCell (World.setCell (World.setCell (World.setCell (World.setCell (World.setCell (World.setCell v ⟨gr, 0, none⟩ y0) ⟨gr, 1, none⟩ y1) ⟨gr, 2, none⟩ y2) ⟨gr, 3, none⟩ y3) ⟨gr, 4, none⟩ y4) ⟨gr, 5, none⟩ y5) ⟨gr, 6, none⟩ y6) ⟨gr, 7, none⟩ y7) ⟨gr, 8, none⟩ y8) ⟨k, 2, none⟩ = some z2 ∧ World.cell? (World.setCell (World.setCell (World.setCell (World.setCell (World.setCell (World.setCell (World.setCell (World.setCell (World.setCell v ⟨gr, 0, none⟩ y0) ⟨gr, 1, none⟩ y1) ⟨gr, 2, none⟩ y2) ⟨gr, 3, none⟩ y3) ⟨gr, 4, none⟩ y4) ⟨gr, 5, none⟩ y5) ⟨gr, 6, none⟩ y6) ⟨gr, 7, none⟩ y7) ⟨gr, 8, none⟩ y8) ⟨k, 3, none⟩ = some z3 ∧ World.cell? (World.setCell (World.setCell (World.setCell (World.setCell (World.setCell (World.setCell (World.setCell (World.setCell (World.setCell v ⟨gr, 0, none⟩ y0) ⟨gr, 1, none⟩ y1) ⟨gr, 2, none⟩ y2) ⟨gr, 3, none⟩ y3) ⟨gr, 4, none⟩ y4) ⟨gr, 5, none⟩ y5) ⟨gr, 6, none⟩ y6) ⟨gr, 7, none⟩ y7) ⟨gr, 8, none⟩ y8) ⟨k, 4, none⟩ = some z4 := ⟨(far9c v 0 _ _ _ _ _ _ _ _ _ hb).trans hc.1, (far9c v 0 _ _ _ _ _ _ _ _ _ hk).trans hc.2.1, (far9c v 1 _ _ _ _ _ _ _ _ _ hk).trans hc.2.2.1, (far9c v 2 _ _ _ _ _ _ _ _ _ hk).trans hc.2.2.2.1, (far9c v 3 _ _ _ _ _ _ _ _ _ hk).trans hc.2.2.2.2.1, (far9c v 4 _ _ _ _ _ _ _ _ _ hk).trans hc.2.2.2.2.2⟩
theorem kb_ad {v v2 : World} {p E : Nat} {cs : Array Value} (W : Wrote (v.alloc (.cells cs E)).drew v2 (some ⟨p, 0, none⟩)) (h : v.heap.size ≠ p) : Blk v2 v.heap.size E cs := Blk.wrote2 (Blk.new_at v E cs v.heap.size rfl) (wrote_u W) h
theorem wrote_ad {w w' : World} {o : Obj} {p : Nat} (h : Wrote (w.alloc o).drew w' (some ⟨p, 0, none⟩)) : Wrote w w' (some ⟨p, 0, none⟩) := wrote_trans (wrote_below (((Below.refl _ _).alloc (Nat.le_refl _) o).drew) _) h
theorem g1_alloc {w v : World} {p s gr E : Nat} {cs rs : Array Value} {a0 a1 a2 a3 a4 : Int} (H : NY w v p s gr E cs rs) : ∃ (g : Nat) (o0 o1 o2 o3 o4 : Int), Value.pointer (some ⟨v.heap.size, 0, none⟩) = .pointer (some ⟨g, 0, none⟩) ∧ gr < g ∧ Hid (Blk (v.alloc (.cells #[.int .i64 a0, .int .i64 a1, .int .i64 a2, .int .i64 a3, .int .i64 a4] 47)) g 47 #[.int .i64 o0, .int .i64 o1, .int .i64 o2, .int .i64 o3, .int .i64 o4]) ∧ Hid (NY w (v.alloc (.cells #[.int .i64 a0, .int .i64 a1, .int .i64 a2, .int .i64 a3, .int .i64 a4] 47)) p s gr E cs rs) :=
  ⟨v.heap.size, a0, a1, a2, a3, a4, rfl, H.r.lt, Lib.hid (Blk.new_at v _ _ _ rfl), Lib.hid (H.alloc _)⟩
theorem g1_set {w v : World} {p s gr g0 E : Nat} {cs rs : Array Value} {z0 z1 z2 z3 z4 : Value} {a0 a1 a2 a3 a4 : Int} (H : NY w v p s gr E cs rs) (KB : Blk v g0 47 #[z0, z1, z2, z3, z4]) (h0 : w.heap.size ≤ g0) (h1 : s ≠ g0) (h2 : gr < g0) : ∃ (g : Nat) (o0 o1 o2 o3 o4 : Int), Value.pointer (some ⟨g0, 0, none⟩) = .pointer (some ⟨g, 0, none⟩) ∧ gr < g ∧ Hid (Blk (World.setCell (World.setCell (World.setCell (World.setCell (World.setCell v ⟨g0, 0, none⟩ (.int .i64 a0)) ⟨g0, 1, none⟩ (.int .i64 a1)) ⟨g0, 2, none⟩ (.int .i64 a2)) ⟨g0, 3, none⟩ (.int .i64 a3)) ⟨g0, 4, none⟩ (.int .i64 a4)) g 47 #[.int .i64 o0, .int .i64 o1, .int .i64 o2, .int .i64 o3, .int .i64 o4]) ∧ Hid (NY w (World.setCell (World.setCell (World.setCell (World.setCell (World.setCell v ⟨g0, 0, none⟩ (.int .i64 a0)) ⟨g0, 1, none⟩ (.int .i64 a1)) ⟨g0, 2, none⟩ (.int .i64 a2)) ⟨g0, 3, none⟩ (.int .i64 a3)) ⟨g0, 4, none⟩ (.int .i64 a4)) p s gr E cs rs) :=
  ⟨g0, a0, a1, a2, a3, a4, rfl, h2, Lib.hid (blk_setn5 KB _ _ _ _ _), Lib.hid (NY.far5 H h0 h1 (Nat.ne_of_lt h2) (Nat.lt_trans H.pr h2) _ _ _ _ _)⟩
theorem sl_wrote {w w' : World} {s : Nat} {A : Option Addr} {n p : Nat} {zs : List Int} (h : Sl w s A n zs) (hW : Wrote w w' (some ⟨p, 0, none⟩)) (hne : ∀ a, A = some a → a.block ≠ p) : Sl w' s A n zs := ⟨h.1, fun hn => by
  obtain ⟨b, off, hA, hb, hc⟩ := h.2 hn
  have hk : b ≠ p := hne _ hA
  exact ⟨b, off, hA, Nat.lt_of_lt_of_le hb hW.size, fun j hj => (World.cell?_of_block (a := ⟨b, off + j, none⟩) (World.grownBy.block hW b hb (by simpa using hk))).trans (hc j hj)⟩⟩
def Ret5 (w : World) (p : Nat) (e : Ending) (w' : World) : Prop := ∃ a b c d f, e = .returned (.agg #[.int .i64 a, .int .i64 b, .int .i64 c, .int .i64 d, .int .i64 f]) ∧ LC w' p 74 ∧ Wrote w w' (some ⟨p, 0, none⟩)
theorem ret5 {w v : World} {p : Nat} {a b c d f : Int} (D : LC v p 74) (W : Wrote w v (some ⟨p, 0, none⟩)) : Ret5 w p (.returned (.agg #[.int .i64 a, .int .i64 b, .int .i64 c, .int .i64 d, .int .i64 f])) v := ⟨a, b, c, d, f, rfl, D, W⟩
def Ret9 (w : World) (p : Nat) (e : Ending) (w' : World) : Prop := ∃ ex et ec es ek ea eb eg eh, e = .returned (.agg #[.int .i64 ex, .int .i64 et, .int .i64 ec, .int .i64 es, .int .i64 ek, .int .i64 ea, .int .i64 eb, .int .i64 eg, .int .i64 eh]) ∧ LC w' p 74 ∧ Wrote w w' (some ⟨p, 0, none⟩)
theorem ret9 {w v : World} {p : Nat} {ex et ec es ek ea eb eg eh : Int} (D : LC v p 74) (W : Wrote w v (some ⟨p, 0, none⟩)) : Ret9 w p (.returned (.agg #[.int .i64 ex, .int .i64 et, .int .i64 ec, .int .i64 es, .int .i64 ek, .int .i64 ea, .int .i64 eb, .int .i64 eg, .int .i64 eh])) v := ⟨ex, et, ec, es, ek, ea, eb, eg, eh, rfl, D, W⟩
set_option maxHeartbeats 2000000 in
theorem l17CapOp_any (a b c d f : Int) (w : World) : Calls Try.prog 54 #[.agg #[.int .i64 a, .int .i64 b, .int .i64 c, .int .i64 d, .int .i64 f]] w fun e w' => ∃ x, e = .returned (.agg #[.int .i64 a, .int .i64 b, .int .i64 x, .int .i64 d, .int .i64 f]) ∧ Below w.heap.size w w' := by
  go_enter Try.func54, Try.ntmps54
  by_cases ha : a = 3
  · subst ha
    go_wp2_with fail
    refine (l1Min_any c 1000000 _).mono ?_
    rintro e w2 ⟨rfl, rfl⟩
    generalize (if c < 1000000 then c else 1000000) = x
    go_wp21
    refine bodyPost_ret (v := .agg #[.int .i64 3, .int .i64 b, .int .i64 x, .int .i64 d, .int .i64 f]) (by simp [results, Try.results54, go_sem, *]) rfl ?_
    exact ⟨x, rfl, by (repeat' (first | (with_reducible exact Below.refl _ _) | (with_reducible assumption) | (with_reducible refine Below.alloc ?_ ?_ _) | (with_reducible refine Below.drew ?_) | (with_reducible refine Below.setCell ?_ ?_ _) | (with_reducible refine bstep (by assumption) ?_ ?_) | (with_reducible exact Nat.le_refl _) | omega | (simp [*]; done) | (simp [*]; omega)))⟩
  · have ha2 : (a == 3) = false := by simpa using ha
    go_wp21
    refine bodyPost_ret (v := .agg #[.int .i64 a, .int .i64 b, .int .i64 c, .int .i64 d, .int .i64 f]) (by simp [results, Try.results54, go_sem, *]) rfl ?_
    exact ⟨c, rfl, by (repeat' (first | (with_reducible exact Below.refl _ _) | (with_reducible assumption) | (with_reducible refine Below.alloc ?_ ?_ _) | (with_reducible refine Below.drew ?_) | (with_reducible refine Below.setCell ?_ ?_ _) | (with_reducible refine bstep (by assumption) ?_ ?_) | (with_reducible exact Nat.le_refl _) | omega | (simp [*]; done) | (simp [*]; omega)))⟩
set_option maxRecDepth 100000 in
set_option maxHeartbeats 8000000 in
theorem l17DrawOp_any (p : Nat) (A : Option Addr) (n c : Nat) (B : Option Addr) (m d : Nat) (i0 t0 l0 l1 l2 : Int) (ql : List Jb) (cl : Int) (w : World) (hL : LC w p 74) (hQ : Sl w 5 B m (JB ql)) (hr : ql.length = m) (hm : m ≤ maxLen) (hne : ∀ a, B = some a → a.block ≠ p) :
    Calls Try.prog 52 #[.pointer (some ⟨p, 0, none⟩), .agg #[.int .i64 i0, .int .i64 t0, .slice A n c, .slice B m d, .int .i64 l0, .int .i64 l1, .int .i64 l2], .int .i64 cl] w (Ret5 w p) := by
  have HQ := Lib.hid hQ
  have HR := Lib.hid hr
  clear hQ hr
  go_enter Try.func52, Try.ntmps52
  go_wp2_with fail
  refine calls_named ?_
  rintro v0 hv0
  have f0 : Below w.heap.size w v0 := by rw [hv0]; (repeat' (first | (with_reducible exact Below.refl _ _) | (with_reducible assumption) | (with_reducible refine Below.alloc ?_ ?_ _) | (with_reducible refine Below.drew ?_) | (with_reducible refine Below.setCell ?_ ?_ _) | (with_reducible refine bstep (by assumption) ?_ ?_) | (with_reducible exact Nat.le_refl _) | omega | (simp [*]; done) | (simp [*]; omega)))
  have K0 : Blk v0 w.heap.size 29 #[.int .i64 i0, .int .i64 t0, .slice A n c, .slice B m d, .int .i64 l0, .int .i64 l1, .int .i64 l2] := by rw [hv0]; exact (Blk.new_at _ _ _ _ (by simp)).alloc _
  have K1 : Blk v0 (w.heap.size + 1) 47 #[.int .i64 0, .int .i64 0, .int .i64 0, .int .i64 0, .int .i64 0] := by rw [hv0]; exact Blk.new_at _ _ _ _ (by simp)
  clear hv0
  generalize hgr : w.heap.size + 1 = gr at *
  have hp := hL.lt
  have H0 := Lib.hid (show NY w v0 p w.heap.size gr 47 _ _ from ⟨K0, K1, hL.new f0, wrote_below f0 _, hp, by omega⟩)
  have hsr : ¬ w.heap.size = gr := by omega
  have hrs : ¬ gr = w.heap.size := by omega
  have hwr : w.heap.size ≤ gr := by omega
  have lgr := K1.lt
  clear K0 K1 f0 hL hgr
  refine (l1Below_any p 12 v0 H0.out.d (by decide) (by decide)).mono ?_
  rintro e v1 ⟨x, rfl, ⟨x0, x1⟩, D, W⟩
  have H1 := Lib.hid (H0.out.dice W D)
  clear D W H0
  rcases (by omega : (x = 0 ∨ x = 1 ∨ x = 2) ∨ x = 3 ∨ (x = 4 ∨ x = 5 ∨ x = 6) ∨ (x = 7 ∨ x = 8) ∨ 9 ≤ x) with hx | hx | hx | hx | hx
  · rcases hx with rfl | rfl | rfl
    all_goals
      go_wp2_with fail
      refine (l1Below_any p 5 v1 H1.out.d (by decide) (by decide)).mono ?_
      rintro e v2 ⟨y, rfl, ⟨y0, y1⟩, D, W⟩
      have H2 := Lib.hid (H1.out.dice W D)
      clear D W H1
      go_wp2_with fail
      refine (l1Below_any p 9 v2 H2.out.d (by decide) (by decide)).mono ?_
      rintro e v3 ⟨u, rfl, ⟨u0, u1⟩, D, W⟩
      have H3 := Lib.hid (H2.out.dice W D)
      clear D W H2
      have lr := H3.out.r.lt
      have r_0 : v3.cell? ⟨gr, 0, none⟩ = some (.int .i64 0) := H3.out.r.cell 0
      have rf_0 : v3.frozen? ⟨gr, 0, none⟩ = false := H3.out.r.frozen 0
      have r_1 : v3.cell? ⟨gr, 1, none⟩ = some (.int .i64 0) := H3.out.r.cell 1
      have rf_1 : v3.frozen? ⟨gr, 1, none⟩ = false := H3.out.r.frozen 1
      have r_2 : v3.cell? ⟨gr, 2, none⟩ = some (.int .i64 0) := H3.out.r.cell 2
      have rf_2 : v3.frozen? ⟨gr, 2, none⟩ = false := H3.out.r.frozen 2
      have r_3 : v3.cell? ⟨gr, 3, none⟩ = some (.int .i64 0) := H3.out.r.cell 3
      have rf_3 : v3.frozen? ⟨gr, 3, none⟩ = false := H3.out.r.frozen 3
      have r_4 : v3.cell? ⟨gr, 4, none⟩ = some (.int .i64 0) := H3.out.r.cell 4
      have rf_4 : v3.frozen? ⟨gr, 4, none⟩ = false := H3.out.r.frozen 4
      go_wp2_with fail
      refine bodyPost_ret (v := .agg #[.int .i64 (1), .int .i64 (y), .int .i64 (u), .int .i64 (0), .int .i64 (0)]) (by simp [results, Try.results52, go_sem, *]) rfl ?_
      exact ret5 (lc_setn5 H3.out.d H3.out.pr _ _ _ _ _) (wrote_grow H3.out.f (below_setn5 (by omega) _ _ _ _ _) (Nat.le_refl _))
  · subst hx
    go_wp2_with fail
    refine (l1Below_any p 5 v1 H1.out.d (by decide) (by decide)).mono ?_
    rintro e v2 ⟨y, rfl, ⟨y0, y1⟩, D, W⟩
    have H2 := Lib.hid (H1.out.dice W D)
    clear D W H1
    have lr := H2.out.r.lt
    have r_0 : v2.cell? ⟨gr, 0, none⟩ = some (.int .i64 0) := H2.out.r.cell 0
    have rf_0 : v2.frozen? ⟨gr, 0, none⟩ = false := H2.out.r.frozen 0
    have r_1 : v2.cell? ⟨gr, 1, none⟩ = some (.int .i64 0) := H2.out.r.cell 1
    have rf_1 : v2.frozen? ⟨gr, 1, none⟩ = false := H2.out.r.frozen 1
    have r_2 : v2.cell? ⟨gr, 2, none⟩ = some (.int .i64 0) := H2.out.r.cell 2
    have rf_2 : v2.frozen? ⟨gr, 2, none⟩ = false := H2.out.r.frozen 2
    have r_3 : v2.cell? ⟨gr, 3, none⟩ = some (.int .i64 0) := H2.out.r.cell 3
    have rf_3 : v2.frozen? ⟨gr, 3, none⟩ = false := H2.out.r.frozen 3
    have r_4 : v2.cell? ⟨gr, 4, none⟩ = some (.int .i64 0) := H2.out.r.cell 4
    have rf_4 : v2.frozen? ⟨gr, 4, none⟩ = false := H2.out.r.frozen 4
    go_wp2_with fail
    refine bodyPost_ret (v := .agg #[.int .i64 (2), .int .i64 (y), .int .i64 (0), .int .i64 (0), .int .i64 (0)]) (by simp [results, Try.results52, go_sem, *]) rfl ?_
    exact ret5 (lc_setn5 H2.out.d H2.out.pr _ _ _ _ _) (wrote_grow H2.out.f (below_setn5 (by omega) _ _ _ _ _) (Nat.le_refl _))
  · rcases hx with rfl | rfl | rfl
    all_goals
      have hS0 : v1.drew.cell? ⟨w.heap.size, 1, none⟩ = some (.int .i64 t0) := H1.out.s.cell 1
      go_upto_region 11 with fail
      go_region_held_law (fun w' => w'.cell? ⟨w.heap.size, 1, none⟩ = some (.int .i64 t0)) (first | with_reducible assumption | with_reducible exact s1_far hS4 hsr) (first | (go_at_call 15; have hcc := l1Below_any p 9 v1.drew H1.out.drew.d (by decide) (by decide); (with_reducible refine hcc.mono ?_); clear hcc; rintro e v2 ⟨y0, rfl, ⟨a0, b0⟩, D, W0⟩; have W : Wrote v1 v2 (some ⟨p, 0, none⟩) := (by with_reducible exact wrote_u W0); have H2 := Lib.hid (H1.out.dice W D); have hS1 : v2.cell? ⟨w.heap.size, 1, none⟩ = some (.int .i64 t0) := H2.out.s.cell 1; clear D W W0) | (go_at_call 15; have hcc := l1Below_any p 12 v2 H2.out.d (by decide) (by decide); (with_reducible refine hcc.mono ?_); clear hcc; rintro e v3 ⟨y1, rfl, ⟨a1, b1⟩, D, W0⟩; have W : Wrote v2 v3 (some ⟨p, 0, none⟩) := (by with_reducible exact W0); have H3 := Lib.hid (H2.out.dice W D); have hS2 : v3.cell? ⟨w.heap.size, 1, none⟩ = some (.int .i64 t0) := H3.out.s.cell 1; clear D W W0) | (go_at_call 15; have hcc := l1Below_any p 5 v3 H3.out.d (by decide) (by decide); (with_reducible refine hcc.mono ?_); clear hcc; rintro e v4 ⟨y2, rfl, ⟨a2, b2⟩, D, W0⟩; have W : Wrote v3 v4 (some ⟨p, 0, none⟩) := (by with_reducible exact W0); have H4 := Lib.hid (H3.out.dice W D); have hS3 : v4.cell? ⟨w.heap.size, 1, none⟩ = some (.int .i64 t0) := H4.out.s.cell 1; clear D W W0) | (go_at_call 15; have hcc := l1Below_any p 9 v4 H4.out.d (by decide) (by decide); (with_reducible refine hcc.mono ?_); clear hcc; rintro e v5 ⟨y3, rfl, ⟨a3, b3⟩, D, W0⟩; have W : Wrote v4 v5 (some ⟨p, 0, none⟩) := (by with_reducible exact W0); have H5 := Lib.hid (H4.out.dice W D); have hS4 : v5.cell? ⟨w.heap.size, 1, none⟩ = some (.int .i64 t0) := H5.out.s.cell 1; clear D W W0; have lr := H5.out.r.lt; have r_0 : v5.cell? ⟨gr, 0, none⟩ = some (.int .i64 0) := H5.out.r.cell 0; have rf_0 : v5.frozen? ⟨gr, 0, none⟩ = false := H5.out.r.frozen 0; have r_1 : v5.cell? ⟨gr, 1, none⟩ = some (.int .i64 0) := H5.out.r.cell 1; have rf_1 : v5.frozen? ⟨gr, 1, none⟩ = false := H5.out.r.frozen 1; have r_2 : v5.cell? ⟨gr, 2, none⟩ = some (.int .i64 0) := H5.out.r.cell 2; have rf_2 : v5.frozen? ⟨gr, 2, none⟩ = false := H5.out.r.frozen 2; have r_3 : v5.cell? ⟨gr, 3, none⟩ = some (.int .i64 0) := H5.out.r.cell 3; have rf_3 : v5.frozen? ⟨gr, 3, none⟩ = false := H5.out.r.frozen 3; have r_4 : v5.cell? ⟨gr, 4, none⟩ = some (.int .i64 0) := H5.out.r.cell 4; have rf_4 : v5.frozen? ⟨gr, 4, none⟩ = false := H5.out.r.frozen 4))
      clear lr r_0 rf_0 r_1 rf_1 r_2 rf_2 r_3 rf_3 r_4 rf_4
      with_reducible refine ny_end5 H5.out hwr ?_
      intro v99 KR D11 W11
      have l11 := KR.lt
      obtain ⟨r_0, r_1, r_2, r_3, r_4⟩ := bc5 KR
      clear KR
      go_wp2_with fail
      refine bodyPost_ret (v := .agg #[.int .i64 (3), .int .i64 (IntKind.i64.wrap (1 + y0)), .int .i64 (IntKind.i64.wrap (t0 + y1)), .int .i64 (y2), .int .i64 (IntKind.i64.wrap (1 + y3))]) (by simp [results, Try.results52, go_sem, *]) rfl ?_
      with_reducible exact ret5 D11 W11
  · rcases hx with rfl | rfl
    all_goals
      go_wp2_with fail
      refine (l1Below_any p 25 v1 H1.out.d (by decide) (by decide)).mono ?_
      rintro e v2 ⟨y, rfl, ⟨y0, y1⟩, D, W⟩
      have H2 := Lib.hid (H1.out.dice W D)
      clear D W H1
      have lr := H2.out.r.lt
      have r_0 : v2.cell? ⟨gr, 0, none⟩ = some (.int .i64 0) := H2.out.r.cell 0
      have rf_0 : v2.frozen? ⟨gr, 0, none⟩ = false := H2.out.r.frozen 0
      have r_1 : v2.cell? ⟨gr, 1, none⟩ = some (.int .i64 0) := H2.out.r.cell 1
      have rf_1 : v2.frozen? ⟨gr, 1, none⟩ = false := H2.out.r.frozen 1
      have r_2 : v2.cell? ⟨gr, 2, none⟩ = some (.int .i64 0) := H2.out.r.cell 2
      have rf_2 : v2.frozen? ⟨gr, 2, none⟩ = false := H2.out.r.frozen 2
      have r_3 : v2.cell? ⟨gr, 3, none⟩ = some (.int .i64 0) := H2.out.r.cell 3
      have rf_3 : v2.frozen? ⟨gr, 3, none⟩ = false := H2.out.r.frozen 3
      have r_4 : v2.cell? ⟨gr, 4, none⟩ = some (.int .i64 0) := H2.out.r.cell 4
      have rf_4 : v2.frozen? ⟨gr, 4, none⟩ = false := H2.out.r.frozen 4
      go_wp2_with fail
      refine bodyPost_ret (v := .agg #[.int .i64 (5), .int .i64 (1 + y), .int .i64 (0), .int .i64 (0), .int .i64 (0)]) (by simp [results, Try.results52, go_sem, *]) rfl ?_
      exact ret5 (lc_setn5 H2.out.d H2.out.pr _ _ _ _ _) (wrote_grow H2.out.f (below_setn5 (by omega) _ _ _ _ _) (Nat.le_refl _))
  · have e0 : (x == 0) = false := by simp only [beq_eq_false_iff_ne]; omega
    have e1 : (x == 1) = false := by simp only [beq_eq_false_iff_ne]; omega
    have e2 : (x == 2) = false := by simp only [beq_eq_false_iff_ne]; omega
    have e3 : (x == 3) = false := by simp only [beq_eq_false_iff_ne]; omega
    have e4 : (x == 4) = false := by simp only [beq_eq_false_iff_ne]; omega
    have e5 : (x == 5) = false := by simp only [beq_eq_false_iff_ne]; omega
    have e6 : (x == 6) = false := by simp only [beq_eq_false_iff_ne]; omega
    have e7 : (x == 7) = false := by simp only [beq_eq_false_iff_ne]; omega
    have e8 : (x == 8) = false := by simp only [beq_eq_false_iff_ne]; omega
    go_upto_region 15 with fail
    go_cut [7] (fun ov wx => ∃ (g : Nat) (o0 o1 o2 o3 o4 : Int), ov = .pointer (some ⟨g, 0, none⟩) ∧ gr < g ∧ Hid (Blk wx g 47 #[.int .i64 o0, .int .i64 o1, .int .i64 o2, .int .i64 o3, .int .i64 o4]) ∧ Hid (NY w wx p w.heap.size gr 47 #[.int .i64 i0, .int .i64 t0, .slice A n c, .slice B m d, .int .i64 l0, .int .i64 l1, .int .i64 l2] #[.int .i64 0, .int .i64 0, .int .i64 0, .int .i64 0, .int .i64 0]))
    case first =>
      have q5 : v1.cell? ⟨w.heap.size, 5, none⟩ = some (.int .i64 l1) := H1.out.s.cell 5
      have lS := H1.out.s.lt
      have lr1 := H1.out.r.lt
      go_region_with (first | (go_at_call 15; have hcc := l1Below_any p 9 v1.drew H1.out.drew.d (by decide) (by decide); (with_reducible refine hcc.mono ?_); clear hcc; rintro e v2 ⟨y, rfl, ⟨y0, y1⟩, D, W⟩; have W1 : Wrote v1 v2 (some ⟨p, 0, none⟩) := (by with_reducible exact wrote_u W); have H2 := Lib.hid (H1.out.dice W1 D); have z2 := W1.size; have q5 : v2.cell? ⟨w.heap.size, 5, none⟩ = some (.int .i64 l1) := H2.out.s.cell 5; have lS := H2.out.s.lt) | (go_at_call 15; have hcc := l1Below_any p 9 (v1.alloc (.cells #[.int .i64 0, .int .i64 0, .int .i64 0, .int .i64 0, .int .i64 0] 47)).drew (H1.out.alloc _).drew.d (by decide) (by decide); (with_reducible refine hcc.mono ?_); clear hcc; rintro e v2 ⟨y, rfl, ⟨y0, y1⟩, D, W⟩; have KB : Blk v2 v1.heap.size 47 #[.int .i64 0, .int .i64 0, .int .i64 0, .int .i64 0, .int .i64 0] := kb_ad W (by omega); have W1 : Wrote v1 v2 (some ⟨p, 0, none⟩) := (by with_reducible exact wrote_ad W); have H2 := Lib.hid (H1.out.dice W1 D); have z2 := W1.size; have q5 : v2.cell? ⟨w.heap.size, 5, none⟩ = some (.int .i64 l1) := H2.out.s.cell 5; have lS := H2.out.s.lt; have kb0 : v2.cell? ⟨v1.heap.size, 0, none⟩ = some (.int .i64 0) := KB.cell 0; have kf0 := KB.frozen 0; have kb1 : v2.cell? ⟨v1.heap.size, 1, none⟩ = some (.int .i64 0) := KB.cell 1; have kf1 := KB.frozen 1; have kb2 : v2.cell? ⟨v1.heap.size, 2, none⟩ = some (.int .i64 0) := KB.cell 2; have kf2 := KB.frozen 2; have kb3 : v2.cell? ⟨v1.heap.size, 3, none⟩ = some (.int .i64 0) := KB.cell 3; have kf3 := KB.frozen 3; have kb4 : v2.cell? ⟨v1.heap.size, 4, none⟩ = some (.int .i64 0) := KB.cell 4; have kf4 := KB.frozen 4; have kbl := KB.lt))
      all_goals go_wp2_with fail
      all_goals go_meet
      all_goals first
        | with_reducible exact g1_alloc H2.out
        | with_reducible exact g1_set H2.out KB (by omega) (by omega) (by omega)
    case rest =>
      obtain ⟨g, o0, o1, o2, o3, o4, rfl, hg, KO2, H2⟩ := hcut
      rename World => v2
      clear H1
      have hgr0 : ¬ g = gr := by omega
      have hrg0 : ¬ gr = g := by omega
      have r3 : v2.cell? ⟨w.heap.size, 3, none⟩ = some (.slice B m d) := H2.out.s.cell 3
      have l3 := H2.out.s.lt
      go_wp2_with fail
      refine (specOpenJobs_any B m d ql v2 (sl_wrote HQ.out H2.out.f hne) HR.out hm).mono ?_
      rintro e v3 ⟨AA, cc, rfl, R, hb⟩
      have H3 := Lib.hid (H2.out.below hb)
      have KO3 := Lib.hid (KO2.out.below hb)
      have gA := R.ge
      have z2 := H2.out.f.size
      have RS := Lib.hid R
      clear R hb r3 l3 H2 KO2
      generalize DU (openR ql) = zs at RS
      generalize (openR ql).length = N at *
      rcases Nat.eq_zero_or_pos N with hN | hN
      · subst hN
        clear RS gA
        go_wp2_with fail
        refine (l1Once_any p 8 v3 H3.out.d (by decide) (by decide)).mono ?_
        rintro e v4 ⟨b8, rfl, D, W⟩
        have H4 := Lib.hid (H3.out.dice W D)
        have KO4 := Lib.hid (KO3.out.wrote2 W (by have := H3.out.pr; omega))
        clear D W H3 KO3
        cases b8 with
        | false =>
          have k_l := KO4.out.lt
          have k_0 : v4.cell? ⟨g, 0, none⟩ = some (.int .i64 o0) := KO4.out.cell 0
          have kf_0 : v4.frozen? ⟨g, 0, none⟩ = false := KO4.out.frozen 0
          have k_1 : v4.cell? ⟨g, 1, none⟩ = some (.int .i64 o1) := KO4.out.cell 1
          have kf_1 : v4.frozen? ⟨g, 1, none⟩ = false := KO4.out.frozen 1
          have k_2 : v4.cell? ⟨g, 2, none⟩ = some (.int .i64 o2) := KO4.out.cell 2
          have kf_2 : v4.frozen? ⟨g, 2, none⟩ = false := KO4.out.frozen 2
          have k_3 : v4.cell? ⟨g, 3, none⟩ = some (.int .i64 o3) := KO4.out.cell 3
          have kf_3 : v4.frozen? ⟨g, 3, none⟩ = false := KO4.out.frozen 3
          have k_4 : v4.cell? ⟨g, 4, none⟩ = some (.int .i64 o4) := KO4.out.cell 4
          have kf_4 : v4.frozen? ⟨g, 4, none⟩ = false := KO4.out.frozen 4
          have lr := H4.out.r.lt
          have r_0 : v4.cell? ⟨gr, 0, none⟩ = some (.int .i64 0) := H4.out.r.cell 0
          have rf_0 : v4.frozen? ⟨gr, 0, none⟩ = false := H4.out.r.frozen 0
          have r_1 : v4.cell? ⟨gr, 1, none⟩ = some (.int .i64 0) := H4.out.r.cell 1
          have rf_1 : v4.frozen? ⟨gr, 1, none⟩ = false := H4.out.r.frozen 1
          have r_2 : v4.cell? ⟨gr, 2, none⟩ = some (.int .i64 0) := H4.out.r.cell 2
          have rf_2 : v4.frozen? ⟨gr, 2, none⟩ = false := H4.out.r.frozen 2
          have r_3 : v4.cell? ⟨gr, 3, none⟩ = some (.int .i64 0) := H4.out.r.cell 3
          have rf_3 : v4.frozen? ⟨gr, 3, none⟩ = false := H4.out.r.frozen 3
          have r_4 : v4.cell? ⟨gr, 4, none⟩ = some (.int .i64 0) := H4.out.r.cell 4
          have rf_4 : v4.frozen? ⟨gr, 4, none⟩ = false := H4.out.r.frozen 4
          go_wp2_with fail
          refine bodyPost_ret (v := .agg #[.int .i64 o0, .int .i64 o1, .int .i64 o2, .int .i64 o3, .int .i64 o4]) (by simp [results, Try.results52, go_sem, *]) rfl ?_
          exact ret5 (lc_setn5 (H4.out.d) H4.out.pr _ _ _ _ _) (wrote_grow H4.out.f (below_setn5 hwr _ _ _ _ _) (Nat.le_refl _))
        | true =>
          go_wp2_with fail
          refine (l1Below_any p 4 v4 H4.out.d (by decide) (by decide)).mono ?_
          rintro e v5 ⟨u, rfl, ⟨u0, u1⟩, D, W⟩
          have H5 := Lib.hid (H4.out.dice W D)
          have KO5 := Lib.hid (KO4.out.wrote2 W (by have := H4.out.pr; omega))
          clear D W H4 KO4
          have k_l := KO5.out.lt
          have k_0 : v5.cell? ⟨g, 0, none⟩ = some (.int .i64 o0) := KO5.out.cell 0
          have kf_0 : v5.frozen? ⟨g, 0, none⟩ = false := KO5.out.frozen 0
          have k_1 : v5.cell? ⟨g, 1, none⟩ = some (.int .i64 o1) := KO5.out.cell 1
          have kf_1 : v5.frozen? ⟨g, 1, none⟩ = false := KO5.out.frozen 1
          have k_2 : v5.cell? ⟨g, 2, none⟩ = some (.int .i64 o2) := KO5.out.cell 2
          have kf_2 : v5.frozen? ⟨g, 2, none⟩ = false := KO5.out.frozen 2
          have k_3 : v5.cell? ⟨g, 3, none⟩ = some (.int .i64 o3) := KO5.out.cell 3
          have kf_3 : v5.frozen? ⟨g, 3, none⟩ = false := KO5.out.frozen 3
          have k_4 : v5.cell? ⟨g, 4, none⟩ = some (.int .i64 o4) := KO5.out.cell 4
          have kf_4 : v5.frozen? ⟨g, 4, none⟩ = false := KO5.out.frozen 4
          have lr := H5.out.r.lt
          have r_0 : v5.cell? ⟨gr, 0, none⟩ = some (.int .i64 0) := H5.out.r.cell 0
          have rf_0 : v5.frozen? ⟨gr, 0, none⟩ = false := H5.out.r.frozen 0
          have r_1 : v5.cell? ⟨gr, 1, none⟩ = some (.int .i64 0) := H5.out.r.cell 1
          have rf_1 : v5.frozen? ⟨gr, 1, none⟩ = false := H5.out.r.frozen 1
          have r_2 : v5.cell? ⟨gr, 2, none⟩ = some (.int .i64 0) := H5.out.r.cell 2
          have rf_2 : v5.frozen? ⟨gr, 2, none⟩ = false := H5.out.r.frozen 2
          have r_3 : v5.cell? ⟨gr, 3, none⟩ = some (.int .i64 0) := H5.out.r.cell 3
          have rf_3 : v5.frozen? ⟨gr, 3, none⟩ = false := H5.out.r.frozen 3
          have r_4 : v5.cell? ⟨gr, 4, none⟩ = some (.int .i64 0) := H5.out.r.cell 4
          have rf_4 : v5.frozen? ⟨gr, 4, none⟩ = false := H5.out.r.frozen 4
          go_wp2_with fail
          refine bodyPost_ret (v := .agg #[.int .i64 o0, .int .i64 o1, .int .i64 u, .int .i64 o3, .int .i64 o4]) (by simp [results, Try.results52, go_sem, *]) rfl ?_
          exact ret5 (lc_setn5 (H5.out.d.far (q := ⟨g, 2, none⟩) (by have := H5.out.pr; show p < g; omega) _) H5.out.pr _ _ _ _ _) (wrote_grow H5.out.f (btr ((Below.refl _ _).setCell (p := ⟨g, 2, none⟩) (by show w.heap.size ≤ g; omega) _) (below_setn5 hwr _ _ _ _ _)) (Nat.le_refl _))

      · have hN1 : (0 : Int) < (N : Int) := by omega
        go_wp2_with fail
        refine (l1Once_any p 3 v3 H3.out.d (by decide) (by decide)).mono ?_
        rintro e v4 ⟨b3, rfl, D, W⟩
        have RS4 := Lib.hid (rowp RS.out W (show p < v2.heap.size by omega))
        have H4 := Lib.hid (H3.out.dice W D)
        have KO4 := Lib.hid (KO3.out.wrote2 W (by have := H3.out.pr; omega))
        clear D W H3 KO3
        cases b3 with
        | true =>
          go_wp2_with fail
          refine (l1Once_any p 8 v4 H4.out.d (by decide) (by decide)).mono ?_
          rintro e v5 ⟨b8, rfl, D, W⟩
          have H5 := Lib.hid (H4.out.dice W D)
          have KO5 := Lib.hid (KO4.out.wrote2 W (by have := H4.out.pr; omega))
          clear D W H4 KO4
          cases b8 with
          | false =>
            have k_l := KO5.out.lt
            have k_0 : v5.cell? ⟨g, 0, none⟩ = some (.int .i64 o0) := KO5.out.cell 0
            have kf_0 : v5.frozen? ⟨g, 0, none⟩ = false := KO5.out.frozen 0
            have k_1 : v5.cell? ⟨g, 1, none⟩ = some (.int .i64 o1) := KO5.out.cell 1
            have kf_1 : v5.frozen? ⟨g, 1, none⟩ = false := KO5.out.frozen 1
            have k_2 : v5.cell? ⟨g, 2, none⟩ = some (.int .i64 o2) := KO5.out.cell 2
            have kf_2 : v5.frozen? ⟨g, 2, none⟩ = false := KO5.out.frozen 2
            have k_3 : v5.cell? ⟨g, 3, none⟩ = some (.int .i64 o3) := KO5.out.cell 3
            have kf_3 : v5.frozen? ⟨g, 3, none⟩ = false := KO5.out.frozen 3
            have k_4 : v5.cell? ⟨g, 4, none⟩ = some (.int .i64 o4) := KO5.out.cell 4
            have kf_4 : v5.frozen? ⟨g, 4, none⟩ = false := KO5.out.frozen 4
            have lr := H5.out.r.lt
            have r_0 : v5.cell? ⟨gr, 0, none⟩ = some (.int .i64 0) := H5.out.r.cell 0
            have rf_0 : v5.frozen? ⟨gr, 0, none⟩ = false := H5.out.r.frozen 0
            have r_1 : v5.cell? ⟨gr, 1, none⟩ = some (.int .i64 0) := H5.out.r.cell 1
            have rf_1 : v5.frozen? ⟨gr, 1, none⟩ = false := H5.out.r.frozen 1
            have r_2 : v5.cell? ⟨gr, 2, none⟩ = some (.int .i64 0) := H5.out.r.cell 2
            have rf_2 : v5.frozen? ⟨gr, 2, none⟩ = false := H5.out.r.frozen 2
            have r_3 : v5.cell? ⟨gr, 3, none⟩ = some (.int .i64 0) := H5.out.r.cell 3
            have rf_3 : v5.frozen? ⟨gr, 3, none⟩ = false := H5.out.r.frozen 3
            have r_4 : v5.cell? ⟨gr, 4, none⟩ = some (.int .i64 0) := H5.out.r.cell 4
            have rf_4 : v5.frozen? ⟨gr, 4, none⟩ = false := H5.out.r.frozen 4
            go_wp2_with fail
            refine bodyPost_ret (v := .agg #[.int .i64 o0, .int .i64 o1, .int .i64 o2, .int .i64 o3, .int .i64 o4]) (by simp [results, Try.results52, go_sem, *]) rfl ?_
            exact ret5 (lc_setn5 (H5.out.d) H5.out.pr _ _ _ _ _) (wrote_grow H5.out.f (below_setn5 hwr _ _ _ _ _) (Nat.le_refl _))
          | true =>
            go_wp2_with fail
            refine (l1Below_any p 4 v5 H5.out.d (by decide) (by decide)).mono ?_
            rintro e v6 ⟨u, rfl, ⟨u0, u1⟩, D, W⟩
            have H6 := Lib.hid (H5.out.dice W D)
            have KO6 := Lib.hid (KO5.out.wrote2 W (by have := H5.out.pr; omega))
            clear D W H5 KO5
            have k_l := KO6.out.lt
            have k_0 : v6.cell? ⟨g, 0, none⟩ = some (.int .i64 o0) := KO6.out.cell 0
            have kf_0 : v6.frozen? ⟨g, 0, none⟩ = false := KO6.out.frozen 0
            have k_1 : v6.cell? ⟨g, 1, none⟩ = some (.int .i64 o1) := KO6.out.cell 1
            have kf_1 : v6.frozen? ⟨g, 1, none⟩ = false := KO6.out.frozen 1
            have k_2 : v6.cell? ⟨g, 2, none⟩ = some (.int .i64 o2) := KO6.out.cell 2
            have kf_2 : v6.frozen? ⟨g, 2, none⟩ = false := KO6.out.frozen 2
            have k_3 : v6.cell? ⟨g, 3, none⟩ = some (.int .i64 o3) := KO6.out.cell 3
            have kf_3 : v6.frozen? ⟨g, 3, none⟩ = false := KO6.out.frozen 3
            have k_4 : v6.cell? ⟨g, 4, none⟩ = some (.int .i64 o4) := KO6.out.cell 4
            have kf_4 : v6.frozen? ⟨g, 4, none⟩ = false := KO6.out.frozen 4
            have lr := H6.out.r.lt
            have r_0 : v6.cell? ⟨gr, 0, none⟩ = some (.int .i64 0) := H6.out.r.cell 0
            have rf_0 : v6.frozen? ⟨gr, 0, none⟩ = false := H6.out.r.frozen 0
            have r_1 : v6.cell? ⟨gr, 1, none⟩ = some (.int .i64 0) := H6.out.r.cell 1
            have rf_1 : v6.frozen? ⟨gr, 1, none⟩ = false := H6.out.r.frozen 1
            have r_2 : v6.cell? ⟨gr, 2, none⟩ = some (.int .i64 0) := H6.out.r.cell 2
            have rf_2 : v6.frozen? ⟨gr, 2, none⟩ = false := H6.out.r.frozen 2
            have r_3 : v6.cell? ⟨gr, 3, none⟩ = some (.int .i64 0) := H6.out.r.cell 3
            have rf_3 : v6.frozen? ⟨gr, 3, none⟩ = false := H6.out.r.frozen 3
            have r_4 : v6.cell? ⟨gr, 4, none⟩ = some (.int .i64 0) := H6.out.r.cell 4
            have rf_4 : v6.frozen? ⟨gr, 4, none⟩ = false := H6.out.r.frozen 4
            go_wp2_with fail
            refine bodyPost_ret (v := .agg #[.int .i64 o0, .int .i64 o1, .int .i64 u, .int .i64 o3, .int .i64 o4]) (by simp [results, Try.results52, go_sem, *]) rfl ?_
            exact ret5 (lc_setn5 (H6.out.d.far (q := ⟨g, 2, none⟩) (by have := H6.out.pr; show p < g; omega) _) H6.out.pr _ _ _ _ _) (wrote_grow H6.out.f (btr ((Below.refl _ _).setCell (p := ⟨g, 2, none⟩) (by show w.heap.size ≤ g; omega) _) (below_setn5 hwr _ _ _ _ _)) (Nat.le_refl _))
        | false =>
          obtain ⟨b1, off1, rfl, hb1, hc1⟩ := RS4.out.sl.2 hN
          have e0 : v4.cell? ⟨b1, off1, none⟩ = some (.int .i64 (zs.getD 0 0)) := hc1 0 (by omega)
          clear hc1
          have k_l := KO4.out.lt
          have k_0 : v4.cell? ⟨g, 0, none⟩ = some (.int .i64 o0) := KO4.out.cell 0
          have kf_0 : v4.frozen? ⟨g, 0, none⟩ = false := KO4.out.frozen 0
          have k_1 : v4.cell? ⟨g, 1, none⟩ = some (.int .i64 o1) := KO4.out.cell 1
          have kf_1 : v4.frozen? ⟨g, 1, none⟩ = false := KO4.out.frozen 1
          have k_2 : v4.cell? ⟨g, 2, none⟩ = some (.int .i64 o2) := KO4.out.cell 2
          have kf_2 : v4.frozen? ⟨g, 2, none⟩ = false := KO4.out.frozen 2
          have k_3 : v4.cell? ⟨g, 3, none⟩ = some (.int .i64 o3) := KO4.out.cell 3
          have kf_3 : v4.frozen? ⟨g, 3, none⟩ = false := KO4.out.frozen 3
          have k_4 : v4.cell? ⟨g, 4, none⟩ = some (.int .i64 o4) := KO4.out.cell 4
          have kf_4 : v4.frozen? ⟨g, 4, none⟩ = false := KO4.out.frozen 4
          go_wp2_with fail
          refine calls_named ?_
          rintro v5 hv5
          have KO5 : Hid (Blk v5 g 47 #[.int .i64 o0, .int .i64 (zs.getD 0 0), .int .i64 o2, .int .i64 o3, .int .i64 o4]) := by rw [hv5]; exact Lib.hid (KO4.out.set_ 1 _)
          have H5 : Hid (NY w v5 p w.heap.size gr 47 #[.int .i64 i0, .int .i64 t0, .slice A n c, .slice B m d, .int .i64 l0, .int .i64 l1, .int .i64 l2] #[.int .i64 0, .int .i64 0, .int .i64 0, .int .i64 0, .int .i64 0]) := by rw [hv5]; exact Lib.hid (H4.out.far (by omega) (by omega) hrg0 (by have := H4.out.pr; omega) 1 _)
          clear hv5 H4 KO4 e0 k_l k_0 kf_0 k_1 kf_1 k_2 kf_2 k_3 kf_3 k_4 kf_4
          generalize zs.getD 0 0 = o1 at *
          refine (l1Once_any p 8 v5 H5.out.d (by decide) (by decide)).mono ?_
          rintro e v6 ⟨b8, rfl, D, W⟩
          have H6 := Lib.hid (H5.out.dice W D)
          have KO6 := Lib.hid (KO5.out.wrote2 W (by have := H5.out.pr; omega))
          clear D W H5 KO5
          cases b8 with
          | false =>
            have k_l := KO6.out.lt
            have k_0 : v6.cell? ⟨g, 0, none⟩ = some (.int .i64 o0) := KO6.out.cell 0
            have kf_0 : v6.frozen? ⟨g, 0, none⟩ = false := KO6.out.frozen 0
            have k_1 : v6.cell? ⟨g, 1, none⟩ = some (.int .i64 o1) := KO6.out.cell 1
            have kf_1 : v6.frozen? ⟨g, 1, none⟩ = false := KO6.out.frozen 1
            have k_2 : v6.cell? ⟨g, 2, none⟩ = some (.int .i64 o2) := KO6.out.cell 2
            have kf_2 : v6.frozen? ⟨g, 2, none⟩ = false := KO6.out.frozen 2
            have k_3 : v6.cell? ⟨g, 3, none⟩ = some (.int .i64 o3) := KO6.out.cell 3
            have kf_3 : v6.frozen? ⟨g, 3, none⟩ = false := KO6.out.frozen 3
            have k_4 : v6.cell? ⟨g, 4, none⟩ = some (.int .i64 o4) := KO6.out.cell 4
            have kf_4 : v6.frozen? ⟨g, 4, none⟩ = false := KO6.out.frozen 4
            have lr := H6.out.r.lt
            have r_0 : v6.cell? ⟨gr, 0, none⟩ = some (.int .i64 0) := H6.out.r.cell 0
            have rf_0 : v6.frozen? ⟨gr, 0, none⟩ = false := H6.out.r.frozen 0
            have r_1 : v6.cell? ⟨gr, 1, none⟩ = some (.int .i64 0) := H6.out.r.cell 1
            have rf_1 : v6.frozen? ⟨gr, 1, none⟩ = false := H6.out.r.frozen 1
            have r_2 : v6.cell? ⟨gr, 2, none⟩ = some (.int .i64 0) := H6.out.r.cell 2
            have rf_2 : v6.frozen? ⟨gr, 2, none⟩ = false := H6.out.r.frozen 2
            have r_3 : v6.cell? ⟨gr, 3, none⟩ = some (.int .i64 0) := H6.out.r.cell 3
            have rf_3 : v6.frozen? ⟨gr, 3, none⟩ = false := H6.out.r.frozen 3
            have r_4 : v6.cell? ⟨gr, 4, none⟩ = some (.int .i64 0) := H6.out.r.cell 4
            have rf_4 : v6.frozen? ⟨gr, 4, none⟩ = false := H6.out.r.frozen 4
            go_wp2_with fail
            refine bodyPost_ret (v := .agg #[.int .i64 o0, .int .i64 o1, .int .i64 o2, .int .i64 o3, .int .i64 o4]) (by simp [results, Try.results52, go_sem, *]) rfl ?_
            exact ret5 (lc_setn5 (H6.out.d) H6.out.pr _ _ _ _ _) (wrote_grow H6.out.f (below_setn5 hwr _ _ _ _ _) (Nat.le_refl _))
          | true =>
            go_wp2_with fail
            refine (l1Below_any p 4 v6 H6.out.d (by decide) (by decide)).mono ?_
            rintro e v7 ⟨u, rfl, ⟨u0, u1⟩, D, W⟩
            have H7 := Lib.hid (H6.out.dice W D)
            have KO7 := Lib.hid (KO6.out.wrote2 W (by have := H6.out.pr; omega))
            clear D W H6 KO6
            have k_l := KO7.out.lt
            have k_0 : v7.cell? ⟨g, 0, none⟩ = some (.int .i64 o0) := KO7.out.cell 0
            have kf_0 : v7.frozen? ⟨g, 0, none⟩ = false := KO7.out.frozen 0
            have k_1 : v7.cell? ⟨g, 1, none⟩ = some (.int .i64 o1) := KO7.out.cell 1
            have kf_1 : v7.frozen? ⟨g, 1, none⟩ = false := KO7.out.frozen 1
            have k_2 : v7.cell? ⟨g, 2, none⟩ = some (.int .i64 o2) := KO7.out.cell 2
            have kf_2 : v7.frozen? ⟨g, 2, none⟩ = false := KO7.out.frozen 2
            have k_3 : v7.cell? ⟨g, 3, none⟩ = some (.int .i64 o3) := KO7.out.cell 3
            have kf_3 : v7.frozen? ⟨g, 3, none⟩ = false := KO7.out.frozen 3
            have k_4 : v7.cell? ⟨g, 4, none⟩ = some (.int .i64 o4) := KO7.out.cell 4
            have kf_4 : v7.frozen? ⟨g, 4, none⟩ = false := KO7.out.frozen 4
            have lr := H7.out.r.lt
            have r_0 : v7.cell? ⟨gr, 0, none⟩ = some (.int .i64 0) := H7.out.r.cell 0
            have rf_0 : v7.frozen? ⟨gr, 0, none⟩ = false := H7.out.r.frozen 0
            have r_1 : v7.cell? ⟨gr, 1, none⟩ = some (.int .i64 0) := H7.out.r.cell 1
            have rf_1 : v7.frozen? ⟨gr, 1, none⟩ = false := H7.out.r.frozen 1
            have r_2 : v7.cell? ⟨gr, 2, none⟩ = some (.int .i64 0) := H7.out.r.cell 2
            have rf_2 : v7.frozen? ⟨gr, 2, none⟩ = false := H7.out.r.frozen 2
            have r_3 : v7.cell? ⟨gr, 3, none⟩ = some (.int .i64 0) := H7.out.r.cell 3
            have rf_3 : v7.frozen? ⟨gr, 3, none⟩ = false := H7.out.r.frozen 3
            have r_4 : v7.cell? ⟨gr, 4, none⟩ = some (.int .i64 0) := H7.out.r.cell 4
            have rf_4 : v7.frozen? ⟨gr, 4, none⟩ = false := H7.out.r.frozen 4
            go_wp2_with fail
            refine bodyPost_ret (v := .agg #[.int .i64 o0, .int .i64 o1, .int .i64 u, .int .i64 o3, .int .i64 o4]) (by simp [results, Try.results52, go_sem, *]) rfl ?_
            exact ret5 (lc_setn5 (H7.out.d.far (q := ⟨g, 2, none⟩) (by have := H7.out.pr; show p < g; omega) _) H7.out.pr _ _ _ _ _) (wrote_grow H7.out.f (btr ((Below.refl _ _).setCell (p := ⟨g, 2, none⟩) (by show w.heap.size ≤ g; omega) _) (below_setn5 hwr _ _ _ _ _)) (Nat.le_refl _))



theorem l1Min_ex (a b : Int) (w : World) : Calls Try.prog 53 #[.int .i64 a, .int .i64 b] w fun e w' => ∃ x, e = .returned (.int .i64 x) ∧ w = w' := (l1Min_any a b w).mono fun _ _ h => ⟨_, h.1, h.2⟩
set_option maxRecDepth 100000 in
set_option maxHeartbeats 8000000 in
theorem l17DrawEntry_any (p : Nat) (A : Option Addr) (n c : Nat) (B : Option Addr) (m d : Nat) (i0 t0 l0 l1 l2 : Int) (ql : List Jb) (w : World) (hL : LC w p 74) (hQ : Sl w 5 B m (JB ql)) (hr : ql.length = m) (hm : m ≤ maxLen) (hne : ∀ a, B = some a → a.block ≠ p) :
    Calls Try.prog 18 #[.pointer (some ⟨p, 0, none⟩), .agg #[.int .i64 i0, .int .i64 t0, .slice A n c, .slice B m d, .int .i64 l0, .int .i64 l1, .int .i64 l2]] w (Ret9 w p) := by
  have HQ := Lib.hid hQ
  have HR := Lib.hid hr
  have HNE := Lib.hid hne
  clear hne
  clear hQ hr
  go_enter Try.func18, Try.ntmps18
  go_wp2_with fail
  refine calls_named ?_
  rintro v0 hv0
  have f0 : Below w.heap.size w v0 := by rw [hv0]; (repeat' (first | (with_reducible exact Below.refl _ _) | (with_reducible assumption) | (with_reducible refine Below.alloc ?_ ?_ _) | (with_reducible refine Below.drew ?_) | (with_reducible refine Below.setCell ?_ ?_ _) | (with_reducible refine bstep (by assumption) ?_ ?_) | (with_reducible exact Nat.le_refl _) | omega | (simp [*]; done) | (simp [*]; omega)))
  have K0 : Blk v0 w.heap.size 29 #[.int .i64 i0, .int .i64 t0, .slice A n c, .slice B m d, .int .i64 l0, .int .i64 l1, .int .i64 l2] := by rw [hv0]; exact (Blk.new_at _ _ _ _ (by simp)).alloc _
  have K1 : Blk v0 (w.heap.size + 1) 49 #[.int .i64 0, .int .i64 0, .int .i64 0, .int .i64 0, .int .i64 0, .int .i64 0, .int .i64 0, .int .i64 0, .int .i64 0] := by rw [hv0]; exact Blk.new_at _ _ _ _ (by simp)
  clear hv0
  generalize hgr : w.heap.size + 1 = gr at *
  have hp := hL.lt
  have H0 := Lib.hid (show NY w v0 p w.heap.size gr 49 _ _ from ⟨K0, K1, hL.new f0, wrote_below f0 _, hp, by omega⟩)
  have hsr : ¬ w.heap.size = gr := by omega
  have hrs : ¬ gr = w.heap.size := by omega
  have hwr : w.heap.size ≤ gr := by omega
  have lgr := K1.lt
  clear K0 K1 f0 hL hgr
  refine (l1Below_any p 4 v0 H0.out.d (by decide) (by decide)).mono ?_
  rintro e v1 ⟨x, rfl, ⟨x0, x1⟩, D, W⟩
  have H1 := Lib.hid (H0.out.dice W D)
  clear D W H0
  obtain ⟨s_0, s_1, s_2, s_3, s_4, s_5, s_6⟩ := bc7 H1.out.s
  have s_l := H1.out.s.lt
  go_wp2_with fail
  refine (l17DrawOp_any p A n c B m d i0 t0 l0 l1 l2 ql _ v1 H1.out.d (sl_wrote HQ.out H1.out.f HNE.out) HR.out hm HNE.out).mono ?_
  rintro e v2 ⟨o0, o1, o2, o3, o4, rfl, D, W⟩
  have H2 := Lib.hid (H1.out.dice W D)
  clear D W H1 s_l s_0 s_1 s_2 s_3 s_4 s_5 s_6
  go_upto_region 3 with fail
  obtain ⟨v3, hv3⟩ : ∃ x : World, x = (v2.alloc (.cells #[.int .i64 o0, .int .i64 o1, .int .i64 o2, .int .i64 o3, .int .i64 o4] 47)) := ⟨_, rfl⟩
  rw [← hv3]
  obtain ⟨g, hg⟩ : ∃ g, g = v2.heap.size := ⟨_, rfl⟩
  have KO3 : Hid (Blk v3 g 47 #[.int .i64 o0, .int .i64 o1, .int .i64 o2, .int .i64 o3, .int .i64 o4]) := by rw [hv3, hg]; exact Lib.hid (Blk.new_at _ _ _ _ rfl)
  have H3 : Hid (NY w v3 p w.heap.size gr 49 #[.int .i64 i0, .int .i64 t0, .slice A n c, .slice B m d, .int .i64 l0, .int .i64 l1, .int .i64 l2] #[.int .i64 0, .int .i64 0, .int .i64 0, .int .i64 0, .int .i64 0, .int .i64 0, .int .i64 0, .int .i64 0, .int .i64 0]) := by rw [hv3]; exact Lib.hid (H2.out.alloc _)
  have hgg : gr < g := by have := H2.out.r.lt; omega
  have hgr0 : ¬ g = gr := by omega
  have hrg0 : ¬ gr = g := by omega
  have hwg : ¬ w.heap.size = g := by omega
  try rw [← hg]
  clear hv3 hg H2
  go_cut [26] (fun bv wx => ∃ b3 : Bool, bv = .bool b3 ∧ Hid (Blk wx g 47 #[.int .i64 o0, .int .i64 o1, .int .i64 o2, .int .i64 o3, .int .i64 o4]) ∧ Hid (NY w wx p w.heap.size gr 49 #[.int .i64 i0, .int .i64 t0, .slice A n c, .slice B m d, .int .i64 l0, .int .i64 l1, .int .i64 l2] #[.int .i64 0, .int .i64 0, .int .i64 0, .int .i64 0, .int .i64 0, .int .i64 0, .int .i64 0, .int .i64 0, .int .i64 0]))
  case first =>
    by_cases h4 : o0 = 4
    · subst h4
      have k_l := KO3.out.lt
      have k_0 : v3.cell? ⟨g, 0, none⟩ = some (.int .i64 4) := KO3.out.cell 0
      have kf_0 : v3.frozen? ⟨g, 0, none⟩ = false := KO3.out.frozen 0
      have k_1 : v3.cell? ⟨g, 1, none⟩ = some (.int .i64 o1) := KO3.out.cell 1
      have kf_1 : v3.frozen? ⟨g, 1, none⟩ = false := KO3.out.frozen 1
      have k_2 : v3.cell? ⟨g, 2, none⟩ = some (.int .i64 o2) := KO3.out.cell 2
      have kf_2 : v3.frozen? ⟨g, 2, none⟩ = false := KO3.out.frozen 2
      have k_3 : v3.cell? ⟨g, 3, none⟩ = some (.int .i64 o3) := KO3.out.cell 3
      have kf_3 : v3.frozen? ⟨g, 3, none⟩ = false := KO3.out.frozen 3
      have k_4 : v3.cell? ⟨g, 4, none⟩ = some (.int .i64 o4) := KO3.out.cell 4
      have kf_4 : v3.frozen? ⟨g, 4, none⟩ = false := KO3.out.frozen 4
      go_wp2_with fail
      refine (l1Once_any p 2 v3 H3.out.d (by decide) (by decide)).mono ?_
      rintro e v4 ⟨b3, rfl, D, W⟩
      have H4 := Lib.hid (H3.out.dice W D)
      have KO4 := Lib.hid (KO3.out.wrote2 W (by have := H3.out.pr; omega))
      clear D W H3 KO3
      go_wp2_with fail
      go_meet
      exact ⟨b3, rfl, KO4, H4⟩
    · have e4 : (o0 == 4) = false := by simpa using h4
      by_cases h5 : o0 = 5
      · subst h5
        have k_l := KO3.out.lt
        have k_0 : v3.cell? ⟨g, 0, none⟩ = some (.int .i64 5) := KO3.out.cell 0
        have kf_0 : v3.frozen? ⟨g, 0, none⟩ = false := KO3.out.frozen 0
        have k_1 : v3.cell? ⟨g, 1, none⟩ = some (.int .i64 o1) := KO3.out.cell 1
        have kf_1 : v3.frozen? ⟨g, 1, none⟩ = false := KO3.out.frozen 1
        have k_2 : v3.cell? ⟨g, 2, none⟩ = some (.int .i64 o2) := KO3.out.cell 2
        have kf_2 : v3.frozen? ⟨g, 2, none⟩ = false := KO3.out.frozen 2
        have k_3 : v3.cell? ⟨g, 3, none⟩ = some (.int .i64 o3) := KO3.out.cell 3
        have kf_3 : v3.frozen? ⟨g, 3, none⟩ = false := KO3.out.frozen 3
        have k_4 : v3.cell? ⟨g, 4, none⟩ = some (.int .i64 o4) := KO3.out.cell 4
        have kf_4 : v3.frozen? ⟨g, 4, none⟩ = false := KO3.out.frozen 4
        go_wp2_with fail
        refine (l1Once_any p 2 v3 H3.out.d (by decide) (by decide)).mono ?_
        rintro e v4 ⟨b3, rfl, D, W⟩
        have H4 := Lib.hid (H3.out.dice W D)
        have KO4 := Lib.hid (KO3.out.wrote2 W (by have := H3.out.pr; omega))
        clear D W H3 KO3
        go_wp2_with fail
        go_meet
        exact ⟨b3, rfl, KO4, H4⟩
      · have e5 : (o0 == 5) = false := by simpa using h5
        have k_l := KO3.out.lt
        have k_0 : v3.cell? ⟨g, 0, none⟩ = some (.int .i64 o0) := KO3.out.cell 0
        have kf_0 : v3.frozen? ⟨g, 0, none⟩ = false := KO3.out.frozen 0
        have k_1 : v3.cell? ⟨g, 1, none⟩ = some (.int .i64 o1) := KO3.out.cell 1
        have kf_1 : v3.frozen? ⟨g, 1, none⟩ = false := KO3.out.frozen 1
        have k_2 : v3.cell? ⟨g, 2, none⟩ = some (.int .i64 o2) := KO3.out.cell 2
        have kf_2 : v3.frozen? ⟨g, 2, none⟩ = false := KO3.out.frozen 2
        have k_3 : v3.cell? ⟨g, 3, none⟩ = some (.int .i64 o3) := KO3.out.cell 3
        have kf_3 : v3.frozen? ⟨g, 3, none⟩ = false := KO3.out.frozen 3
        have k_4 : v3.cell? ⟨g, 4, none⟩ = some (.int .i64 o4) := KO3.out.cell 4
        have kf_4 : v3.frozen? ⟨g, 4, none⟩ = false := KO3.out.frozen 4
        go_wp2_with fail
        go_meet
        exact ⟨false, rfl, KO3, H3⟩


  case rest =>
    obtain ⟨b3, rfl, KO4, H4⟩ := hcut
    rename World => v4
    clear H3 KO3
    go_upto_if 26 with fail
    go_cut [5] (fun cv wx => ∃ id : Int, cv = .int .i64 id ∧ Hid (Blk wx g 47 #[.int .i64 o0, .int .i64 o1, .int .i64 o2, .int .i64 o3, .int .i64 o4]) ∧ Hid (NY w wx p w.heap.size gr 49 #[.int .i64 i0, .int .i64 t0, .slice A n c, .slice B m d, .int .i64 l0, .int .i64 l1, .int .i64 l2] #[.int .i64 0, .int .i64 0, .int .i64 0, .int .i64 0, .int .i64 0, .int .i64 0, .int .i64 0, .int .i64 0, .int .i64 0]))
    case first =>
      cases b3 with
      | false => go_wp2_with fail; go_meet; exact ⟨_, rfl, KO4, H4⟩
      | true =>
        go_wp2_with fail
        refine (l1Below_any p 2 v4 H4.out.d (by decide) (by decide)).mono ?_
        rintro e v5 ⟨y, rfl, ⟨y0, y1⟩, D, W⟩
        have H5 := Lib.hid (H4.out.dice W D)
        have KO5 := Lib.hid (KO4.out.wrote2 W (by have := H4.out.pr; omega))
        clear D W H4 KO4
        go_wp2_with fail
        go_meet
        exact ⟨_, rfl, KO5, H5⟩
    case rest =>
      obtain ⟨id, rfl, KO5, H5⟩ := hcut
      rename World => v5
      clear H4 KO4
      go_upto_region 5 with fail
      go_cut [43] (fun bv wx => ∃ b5 : Bool, bv = .bool b5 ∧ Hid (Blk wx g 47 #[.int .i64 o0, .int .i64 o1, .int .i64 o2, .int .i64 o3, .int .i64 o4]) ∧ Hid (NY w wx p w.heap.size gr 49 #[.int .i64 i0, .int .i64 t0, .slice A n c, .slice B m d, .int .i64 l0, .int .i64 l1, .int .i64 l2] #[.int .i64 0, .int .i64 0, .int .i64 0, .int .i64 0, .int .i64 0, .int .i64 0, .int .i64 0, .int .i64 0, .int .i64 0]))
      case first =>
        by_cases h4 : o0 = 4
        · subst h4
          have k_l := KO5.out.lt
          have k_0 : v5.cell? ⟨g, 0, none⟩ = some (.int .i64 4) := KO5.out.cell 0
          have kf_0 : v5.frozen? ⟨g, 0, none⟩ = false := KO5.out.frozen 0
          have k_1 : v5.cell? ⟨g, 1, none⟩ = some (.int .i64 o1) := KO5.out.cell 1
          have kf_1 : v5.frozen? ⟨g, 1, none⟩ = false := KO5.out.frozen 1
          have k_2 : v5.cell? ⟨g, 2, none⟩ = some (.int .i64 o2) := KO5.out.cell 2
          have kf_2 : v5.frozen? ⟨g, 2, none⟩ = false := KO5.out.frozen 2
          have k_3 : v5.cell? ⟨g, 3, none⟩ = some (.int .i64 o3) := KO5.out.cell 3
          have kf_3 : v5.frozen? ⟨g, 3, none⟩ = false := KO5.out.frozen 3
          have k_4 : v5.cell? ⟨g, 4, none⟩ = some (.int .i64 o4) := KO5.out.cell 4
          have kf_4 : v5.frozen? ⟨g, 4, none⟩ = false := KO5.out.frozen 4
          have s_4 : v5.cell? ⟨w.heap.size, 4, none⟩ = some (.int .i64 l0) := H5.out.s.cell 4
          have s_l := H5.out.s.lt
          by_cases hl0 : 0 < l0
          · go_wp2_with fail
            refine (l1Once_any p 4 v5 H5.out.d (by decide) (by decide)).mono ?_
            rintro e v6 ⟨b4, rfl, D, W⟩
            have H6 := Lib.hid (H5.out.dice W D)
            have KO6 := Lib.hid (KO5.out.wrote2 W (by have := H5.out.pr; omega))
            clear D W H5 KO5
            go_wp2_with fail
            go_meet
            exact ⟨_, rfl, KO6, H6⟩
          · go_wp2_with fail
            go_meet
            exact ⟨_, rfl, KO5, H5⟩

        · have e4 : (o0 == 4) = false := by simpa using h4
          have k_l := KO5.out.lt
          have k_0 : v5.cell? ⟨g, 0, none⟩ = some (.int .i64 o0) := KO5.out.cell 0
          have kf_0 : v5.frozen? ⟨g, 0, none⟩ = false := KO5.out.frozen 0
          have k_1 : v5.cell? ⟨g, 1, none⟩ = some (.int .i64 o1) := KO5.out.cell 1
          have kf_1 : v5.frozen? ⟨g, 1, none⟩ = false := KO5.out.frozen 1
          have k_2 : v5.cell? ⟨g, 2, none⟩ = some (.int .i64 o2) := KO5.out.cell 2
          have kf_2 : v5.frozen? ⟨g, 2, none⟩ = false := KO5.out.frozen 2
          have k_3 : v5.cell? ⟨g, 3, none⟩ = some (.int .i64 o3) := KO5.out.cell 3
          have kf_3 : v5.frozen? ⟨g, 3, none⟩ = false := KO5.out.frozen 3
          have k_4 : v5.cell? ⟨g, 4, none⟩ = some (.int .i64 o4) := KO5.out.cell 4
          have kf_4 : v5.frozen? ⟨g, 4, none⟩ = false := KO5.out.frozen 4
          go_wp2_with fail
          go_meet
          exact ⟨_, rfl, KO5, H5⟩

      case rest =>
        obtain ⟨b5, rfl, KO6, H6⟩ := hcut
        rename World => v6
        clear H5 KO5
        go_upto_if 43 with fail
        go_cut [5] (fun cv wx => ∃ id : Int, cv = .int .i64 id ∧ Hid (Blk wx g 47 #[.int .i64 o0, .int .i64 o1, .int .i64 o2, .int .i64 o3, .int .i64 o4]) ∧ Hid (NY w wx p w.heap.size gr 49 #[.int .i64 i0, .int .i64 t0, .slice A n c, .slice B m d, .int .i64 l0, .int .i64 l1, .int .i64 l2] #[.int .i64 0, .int .i64 0, .int .i64 0, .int .i64 0, .int .i64 0, .int .i64 0, .int .i64 0, .int .i64 0, .int .i64 0]))
        case first =>
          have s_4 : v6.cell? ⟨w.heap.size, 4, none⟩ = some (.int .i64 l0) := H6.out.s.cell 4
          have s_l := H6.out.s.lt
          cases b5 with
          | false => go_wp2_with fail; go_meet; exact ⟨_, rfl, KO6, H6⟩
          | true => go_wp2_with fail; go_meet; exact ⟨_, rfl, KO6, H6⟩
        case rest =>
          obtain ⟨ic, rfl, KO7, H7⟩ := hcut
          rename World => v7
          clear H6 KO6
          go_upto_region 7 with fail
          have hpg : g ≠ p := by have := H7.out.pr; omega
          have hS0 : v7.drew.cell? ⟨w.heap.size, 1, none⟩ = some (.int .i64 t0) := H7.out.s.cell 1
          go_region_held_law (fun w' => w'.cell? ⟨w.heap.size, 1, none⟩ = some (.int .i64 t0)) (first | with_reducible assumption) ((go_at_call 15; have hcc := l1Below_any p 6 v7.drew H7.out.drew.d (by decide) (by decide); (with_reducible refine hcc.mono ?_); clear hcc; rintro e v8 ⟨y8, rfl, ⟨a8, b8⟩, D, W0⟩; have W : Wrote v7 v8 (some ⟨p, 0, none⟩) := (by with_reducible exact wrote_u W0); have H8 := Lib.hid (H7.out.dice W D); have KO8 := Lib.hid (KO7.out.wrote2 W hpg); have hS8 : v8.cell? ⟨w.heap.size, 1, none⟩ = some (.int .i64 t0) := H8.out.s.cell 1; clear D W W0))
          clear hS0 hS8
          go_wp2_with fail
          refine (l1Once_any p 10 v8 H8.out.d (by decide) (by decide)).mono ?_
          rintro e v9 ⟨b10, rfl, D, W⟩
          have H9 := Lib.hid (H8.out.dice W D)
          have KO9 := Lib.hid (KO8.out.wrote2 W (by have := H8.out.pr; omega))
          clear D W H8 KO8
          cases b10
          all_goals
            have hS9 : v9.drew.cell? ⟨w.heap.size, 0, none⟩ = some (.int .i64 i0) ∧ v9.drew.cell? ⟨g, 0, none⟩ = some (.int .i64 o0) ∧ v9.drew.cell? ⟨g, 1, none⟩ = some (.int .i64 o1) ∧ v9.drew.cell? ⟨g, 2, none⟩ = some (.int .i64 o2) ∧ v9.drew.cell? ⟨g, 3, none⟩ = some (.int .i64 o3) ∧ v9.drew.cell? ⟨g, 4, none⟩ = some (.int .i64 o4) := ⟨H9.out.s.cell 0, KO9.out.cell 0, KO9.out.cell 1, KO9.out.cell 2, KO9.out.cell 3, KO9.out.cell 4⟩
            go_upto_region 10 with fail
            go_region_held_law (fun w' => w'.cell? ⟨w.heap.size, 0, none⟩ = some (.int .i64 i0) ∧ w'.cell? ⟨g, 0, none⟩ = some (.int .i64 o0) ∧ w'.cell? ⟨g, 1, none⟩ = some (.int .i64 o1) ∧ w'.cell? ⟨g, 2, none⟩ = some (.int .i64 o2) ∧ w'.cell? ⟨g, 3, none⟩ = some (.int .i64 o3) ∧ w'.cell? ⟨g, 4, none⟩ = some (.int .i64 o4)) (first | with_reducible assumption | with_reducible exact s7_far hS11 hsr hgr0) (first | (go_at_call 53; (with_reducible refine (l1Min_ex _ _ _).mono ?_); rintro e v9b ⟨mn, rfl, rfl⟩) | (go_at_call 15; have hcc := l1Below_any p 40 v9.drew H9.out.drew.d (by decide) (by decide); (with_reducible refine hcc.mono ?_); clear hcc; rintro e v10 ⟨y10, rfl, ⟨a10, b10⟩, D, W0⟩; have W : Wrote v9 v10 (some ⟨p, 0, none⟩) := (by with_reducible exact wrote_u W0); have H10 := Lib.hid (H9.out.dice W D); have KO10 := Lib.hid (KO9.out.wrote2 W hpg); have hS10 : v10.cell? ⟨w.heap.size, 0, none⟩ = some (.int .i64 i0) ∧ v10.cell? ⟨g, 0, none⟩ = some (.int .i64 o0) ∧ v10.cell? ⟨g, 1, none⟩ = some (.int .i64 o1) ∧ v10.cell? ⟨g, 2, none⟩ = some (.int .i64 o2) ∧ v10.cell? ⟨g, 3, none⟩ = some (.int .i64 o3) ∧ v10.cell? ⟨g, 4, none⟩ = some (.int .i64 o4) := ⟨H10.out.s.cell 0, KO10.out.cell 0, KO10.out.cell 1, KO10.out.cell 2, KO10.out.cell 3, KO10.out.cell 4⟩; clear D W W0) | (go_at_call 54; (with_reducible refine (l17CapOp_any o0 o1 o2 o3 o4 _).mono ?_); rintro e v11 ⟨xc, rfl, bc⟩; have H11 := Lib.hid (H10.out.below bc); have KO11 := Lib.hid (KO10.out.below bc); have hS11 : v11.cell? ⟨w.heap.size, 0, none⟩ = some (.int .i64 i0) ∧ v11.cell? ⟨g, 0, none⟩ = some (.int .i64 o0) ∧ v11.cell? ⟨g, 1, none⟩ = some (.int .i64 o1) ∧ v11.cell? ⟨g, 2, none⟩ = some (.int .i64 o2) ∧ v11.cell? ⟨g, 3, none⟩ = some (.int .i64 o3) ∧ v11.cell? ⟨g, 4, none⟩ = some (.int .i64 o4) := ⟨H11.out.s.cell 0, KO11.out.cell 0, KO11.out.cell 1, KO11.out.cell 2, KO11.out.cell 3, KO11.out.cell 4⟩; clear bc; have lr := H11.out.r.lt; have r_0 : v11.cell? ⟨gr, 0, none⟩ = some (.int .i64 0) := H11.out.r.cell 0; have rf_0 : v11.frozen? ⟨gr, 0, none⟩ = false := H11.out.r.frozen 0; have r_1 : v11.cell? ⟨gr, 1, none⟩ = some (.int .i64 0) := H11.out.r.cell 1; have rf_1 : v11.frozen? ⟨gr, 1, none⟩ = false := H11.out.r.frozen 1; have r_2 : v11.cell? ⟨gr, 2, none⟩ = some (.int .i64 0) := H11.out.r.cell 2; have rf_2 : v11.frozen? ⟨gr, 2, none⟩ = false := H11.out.r.frozen 2; have r_3 : v11.cell? ⟨gr, 3, none⟩ = some (.int .i64 0) := H11.out.r.cell 3; have rf_3 : v11.frozen? ⟨gr, 3, none⟩ = false := H11.out.r.frozen 3; have r_4 : v11.cell? ⟨gr, 4, none⟩ = some (.int .i64 0) := H11.out.r.cell 4; have rf_4 : v11.frozen? ⟨gr, 4, none⟩ = false := H11.out.r.frozen 4; have r_5 : v11.cell? ⟨gr, 5, none⟩ = some (.int .i64 0) := H11.out.r.cell 5; have rf_5 : v11.frozen? ⟨gr, 5, none⟩ = false := H11.out.r.frozen 5; have r_6 : v11.cell? ⟨gr, 6, none⟩ = some (.int .i64 0) := H11.out.r.cell 6; have rf_6 : v11.frozen? ⟨gr, 6, none⟩ = false := H11.out.r.frozen 6; have r_7 : v11.cell? ⟨gr, 7, none⟩ = some (.int .i64 0) := H11.out.r.cell 7; have rf_7 : v11.frozen? ⟨gr, 7, none⟩ = false := H11.out.r.frozen 7; have r_8 : v11.cell? ⟨gr, 8, none⟩ = some (.int .i64 0) := H11.out.r.cell 8; have rf_8 : v11.frozen? ⟨gr, 8, none⟩ = false := H11.out.r.frozen 8))
            clear lr r_0 rf_0 r_1 rf_1 r_2 rf_2 r_3 rf_3 r_4 rf_4 r_5 rf_5 r_6 rf_6 r_7 rf_7 r_8 rf_8
            with_reducible refine ny_end9 H11.out hwr ?_
            intro v99 KR D11 W11
            have l11 := KR.lt
            obtain ⟨r_0, r_1, r_2, r_3, r_4, r_5, r_6, r_7, r_8⟩ := bc9 KR
            clear KR
            go_wp2_with fail
            refine bodyPost_ret (v := .agg #[.int .i64 (IntKind.i64.wrap (i0 + 1)), .int .i64 (mn), .int .i64 (ic), .int .i64 (IntKind.i64.wrap (1 + y10)), .int .i64 (o0), .int .i64 (o1), .int .i64 (xc), .int .i64 (o3), .int .i64 (o4)]) (by simp [results, Try.results18, go_sem, *]) rfl ?_
            with_reducible exact ret9 D11 W11
end Go.Proofs.Ytokklkmibjpjnaa
namespace Go.Proofs.Ytokklkmibjpjnaa
set_option linter.unusedSimpArgs false
set_option linter.unusedVariables false
attribute [local go_sem] n_lt2 n_lt3 n_lt4 n_le2 n_le3
open Go.RowKit
/-- The place of the first pair with this key, or the list's length. -/
def firIx (l : List Jb) (key : Int) : Nat := l.findIdx (fun p => decide (p.f = key))
def placeF (l : List Jb) (key : Int) : Int := if firIx l key < l.length then (firIx l key : Int) else -1
theorem firIx_some {l : List Jb} {key : Int} {k : Nat} (hk : k < l.length) (hj : ∀ j, j < k → (l.getD j default).f ≠ key) (h : (l.getD k default).f = key) : firIx l key = k := by
  unfold firIx
  rw [List.findIdx_eq hk]
  refine ⟨?_, fun j hjk => ?_⟩
  · have : l.getD k default = l[k] := by simp [List.getD, hk]
    rw [this] at h
    simpa using h
  · have hj' := hj j hjk
    have : l.getD j default = l[j] := by simp [List.getD, Nat.lt_trans hjk hk]
    rw [this] at hj'
    simpa using hj'
theorem firIx_none {l : List Jb} {key : Int} (hj : ∀ j, j < l.length → (l.getD j default).f ≠ key) : firIx l key = l.length := by
  unfold firIx
  rw [List.findIdx_eq_length]
  intro x hx
  obtain ⟨i, hi, rfl⟩ := List.getElem_of_mem hx
  have hj' := hj i hi
  have : l.getD i default = l[i] := by simp [List.getD, hi]
  rw [this] at hj'
  simpa using hj'
theorem placeF_some {l : List Jb} {key : Int} {k : Nat} (hk : k < l.length) (hj : ∀ j, j < k → (l.getD j default).f ≠ key) (h : (l.getD k default).f = key) : placeF l key = k := by
  unfold placeF
  rw [firIx_some hk hj h, if_pos hk]
theorem placeF_none {l : List Jb} {key : Int} (hj : ∀ j, j < l.length → (l.getD j default).f ≠ key) : placeF l key = -1 := by
  unfold placeF
  rw [firIx_none hj, if_neg (Nat.lt_irrefl _)]
theorem below_uptoF {l : List Jb} {key : Int} {k : Nat} (h : ∀ j, j < k → (l.getD j default).f ≠ key) (hk : (l.getD k default).f ≠ key) : ∀ j, j < k + 1 → (l.getD j default).f ≠ key := fun j hj => by
  rcases Nat.lt_or_ge j k with h1 | h1
  · exact h j h1
  · obtain rfl : j = k := by omega
    exact hk
attribute [local go_sem] Ext.cell Ext.frozen

end Go.Proofs.Ytokklkmibjpjnaa
namespace Go.Proofs.Ytokklkmibjpjnaa
set_option linter.unusedSimpArgs false
set_option linter.unusedVariables false
attribute [local go_sem] n_lt2 n_lt3 n_lt4 n_le2 n_le3
open Go.RowKit
attribute [local go_sem] Ext.cell Ext.frozen

set_option maxRecDepth 100000 in
set_option maxHeartbeats 800000 in
theorem l15Copy_any (A : Option Addr) (n cap : Nat) (l : List Jb) (w : World) (hS : Sl w 5 A n (JB l)) (hl : l.length = n) (hn : n ≤ 1000) (hA : A = none → n = 0 ∧ cap = 0) :
    Calls Try.prog 42 #[.slice A n cap] w (RetRow w 70 5 n (JB l)) := by
  have R0 : Row (w.alloc (.cells #[] 70)) w.heap.size 70 5 (some ⟨w.heap.size, 0, none⟩) 0 0 [] := row0p (Blk.new w _ _) (Nat.le_refl _)
  have hnw := fun ad (h : A = some ad) => sl_news (hS.below ((Below.refl w.heap.size w).alloc (Nat.le_refl _) (.cells #[] 70))) h
  have hPl : (JB l).length = n * 5 := by rw [JB_len, hl]
  cases A with
  | none =>
    obtain ⟨rfl, rfl⟩ := hA rfl
    have hz : JB l = [] := List.eq_nil_of_length_eq_zero (by omega)
    rw [hz]
    obtain ⟨i0, hi0, hz0, hs0, hy0⟩ := info_parts info_Job
    clear hnw hS hA hPl
    go_enter Try.func42, Try.ntmps42
    go_wp2_with (at_builtin; refine wpList_append_own_none rfl _ _ 25 rfl w.heap.size 70 i0 5 Try.underlying25 hi0 (.slice (some ⟨w.heap.size, 0, none⟩) 0 0) 0 [] rfl R0 rfl ?_)
    go_ret
    exact RetRow.mk R0 (by (repeat' (first | (with_reducible exact Below.refl _ _) | (with_reducible assumption) | (with_reducible refine Below.alloc ?_ ?_ _) | (with_reducible refine Below.drew ?_) | (with_reducible refine Below.setCell ?_ ?_ _) | (with_reducible refine bstep (by assumption) ?_ ?_) | (with_reducible exact Nat.le_refl _) | omega | (simp [*]; done) | (simp [*]; omega))))
  | some ad =>
    have hnw' := Lib.hid (hnw ad rfl)
    clear hnw hS hA
    go_enter Try.func42, Try.ntmps42
    go_wp2_with (at_builtin; refine wpList_append_row rfl _ _ 25 rfl 70 (.agg #[.int .i64 0, .int .i64 0, .int .i64 0, .int .i64 0, .int .i64 0]) 5 40 Try.underlying25 info_Job (by first | kernel_rfl | simp [Value.cells]) (by decide) w.heap.size (some ⟨w.heap.size, 0, none⟩) 0 0 [] rfl R0 ad n cap (JB l) rfl hPl hnw'.out (by unfold maxLen; omega) (by omega) (by simp) ?_; intro A5 c5 w5 R5 B5)
    go_ret
    simp only [Nat.zero_add, List.nil_append] at R5 ⊢
    exact RetRow.mk R5 (((Below.refl w.heap.size w).alloc (Nat.le_refl _) _).trans B5)
def RetJobs (w : World) (r : List Jb × Bool) (e : Ending) (w' : World) : Prop := RetRowB w 70 5 r.1.length (JB r.1) r.2 e w'
theorem retJobs {w w' : World} {r : List Jb × Bool} {l' : List Jb} {A : Option Addr} {n cap : Nat} {b : Bool} (h : r = (l', b)) (hn : n = l'.length) (R : Row w' w.heap.size 70 5 A n cap (JB l')) (hb : Below w.heap.size w w') :
    RetJobs w r (.returned (.tuple #[.slice A n cap, .bool b])) w' := by
  unfold RetJobs
  rw [h]
  subst hn
  exact ⟨A, cap, rfl, R, hb⟩
theorem firedSet_row {w : World} {g lo n cap k : Nat} {cs : Array Value} {l : List Jb} {v : Int} (K : Blk w g 70 cs) (hlo : lo ≤ g) (hnc : n ≤ cap) (hcm : cap ≤ maxLen) (hcs : cs.size = cap * 5) (hl : l.length = n) (hj : ∀ j, j < n * 5 → cs[j]? = some (.int .i64 ((JB l).getD j 0)))
    (hk : k < n) : Row (w.setCell ⟨g, k * 5 + 4, none⟩ (.int .i64 v)) lo 70 5 (some ⟨g, 0, none⟩) n cap (JB (firedSet l k v)) := by
  refine Row.of_blk (K.set_ _ _) hlo hnc hcm (by simpa using hcs) (by rw [JB_len]; simp [firedSet]; omega) (fun t ht => ?_)
  rw [JB_fired_getD l k v (by omega) t (by omega)]
  by_cases h : t = k * 5 + 4
  · subst h
    rw [if_pos rfl, Array.getElem?_setIfInBounds_self_of_lt (by omega)]
  · rw [if_neg h, Array.getElem?_setIfInBounds_ne (by omega), hj t ht]
theorem Row.cells5 {w : World} {lo : Nat} {A : Option Addr} {n cap : Nat} {l : List Jb} (R : Row w lo 70 5 A n cap (JB l)) (hl : l.length = n) (hn : 0 < n) :
    ∃ g cs, A = some ⟨g, 0, none⟩ ∧ lo ≤ g ∧ Blk w g 70 cs ∧ cs.size = cap * 5 ∧ (∀ j, j < n * 5 → cs[j]? = some (.int .i64 ((JB l).getD j 0))) ∧
      ∀ i, i < n → w.cell? ⟨g, i * 5, none⟩ = some (.int .i64 (l.getD i default).i) ∧ w.cell? ⟨g, i * 5 + 1, none⟩ = some (.int .i64 (l.getD i default).d) ∧ w.cell? ⟨g, i * 5 + 2, none⟩ = some (.int .i64 (l.getD i default).k) ∧ w.cell? ⟨g, i * 5 + 3, none⟩ = some (.int .i64 (l.getD i default).v) ∧ w.cell? ⟨g, i * 5 + 4, none⟩ = some (.int .i64 (l.getD i default).f) := by
  obtain ⟨g, cs, hA, hlo, K, _, _, hcs, hj⟩ := R.blk hn
  have hg : ∀ i, i < n → ∀ j, j < 5 → w.cell? ⟨g, i * 5 + j, none⟩ = some (.int .i64 ([(l.getD i default).i, (l.getD i default).d, (l.getD i default).k, (l.getD i default).v, (l.getD i default).f].getD j 0)) := fun i hi j hj' => by
    rw [K.cell, hj _ (by omega), JB_get l i j (by omega) hj']
  exact ⟨g, cs, hA, hlo, K, hcs, hj, fun i hi => ⟨hg i hi 0 (by decide), hg i hi 1 (by decide), hg i hi 2 (by decide), hg i hi 3 (by decide), hg i hi 4 (by decide)⟩⟩

end Go.Proofs.Ytokklkmibjpjnaa
namespace Go.Proofs.Ytokklkmibjpjnaa
set_option linter.unusedSimpArgs false
set_option linter.unusedVariables false
attribute [local go_sem] n_lt2 n_lt3 n_lt4 n_le2 n_le3
open Go.RowKit
attribute [local go_sem] Ext.cell Ext.frozen
theorem hl_drew {W v : World} {g : Nat} (h : ∀ b o, b < g → v.cell? ⟨b, o, none⟩ = W.cell? ⟨b, o, none⟩) : ∀ b o, b < g → v.drew.cell? ⟨b, o, none⟩ = W.cell? ⟨b, o, none⟩ := h
theorem hl_alloc {W v : World} {g : Nat} (h : ∀ b o, b < g → v.cell? ⟨b, o, none⟩ = W.cell? ⟨b, o, none⟩) (hz : g ≤ v.heap.size) (x : Obj) : ∀ b o, b < g → (v.alloc x).cell? ⟨b, o, none⟩ = W.cell? ⟨b, o, none⟩ := fun b o hb => (Below.cell (p := ⟨b, o, none⟩) ((Below.refl v.heap.size v).alloc (Nat.le_refl _) x) (Nat.lt_of_lt_of_le hb hz)).trans (h b o hb)
theorem hl_set {W v : World} {g k : Nat} (h : ∀ b o, b < g → v.cell? ⟨b, o, none⟩ = W.cell? ⟨b, o, none⟩) (hz : g ≤ k) (j : Nat) (y : Value) : ∀ b o, b < g → (v.setCell ⟨k, j, none⟩ y).cell? ⟨b, o, none⟩ = W.cell? ⟨b, o, none⟩ := fun b o hb => (World.cell?_setCell_far _ _ _ _ (by show k ≠ b; omega)).trans (h b o hb)
theorem hl_set7 {W v : World} {g k : Nat} (h : ∀ b o, b < g → v.cell? ⟨b, o, none⟩ = W.cell? ⟨b, o, none⟩) (hz : g ≤ k) (y0 y1 y2 y3 y4 y5 y6 : Value) : ∀ b o, b < g → (((((((v.setCell ⟨k, 0, none⟩ y0).setCell ⟨k, 1, none⟩ y1).setCell ⟨k, 2, none⟩ y2).setCell ⟨k, 3, none⟩ y3).setCell ⟨k, 4, none⟩ y4).setCell ⟨k, 5, none⟩ y5).setCell ⟨k, 6, none⟩ y6).cell? ⟨b, o, none⟩ = W.cell? ⟨b, o, none⟩ := (hl_set (hl_set (hl_set (hl_set (hl_set (hl_set (hl_set h hz 0 y0) hz 1 y1) hz 2 y2) hz 3 y3) hz 4 y4) hz 5 y5) hz 6 y6)

theorem row_nil {w : World} {lo : Nat} {e : TypeId} {s : Nat} {A : Option Addr} {n cap : Nat} {zs : List Int} (h : Row w lo e s A n cap zs) : A = none → n = 0 ∧ cap = 0 := fun hA => by
  subst hA
  rcases h.2 with ⟨hv, h0⟩ | ⟨g, c, cur, hv, _⟩
  · injection hv with _ _ hc
    exact ⟨h0, hc⟩
  · injection hv with h1
    exact absurd h1 (by simp)
set_option maxRecDepth 100000 in
set_option maxHeartbeats 2000000 in
theorem l17Copy_any (A : Option Addr) (n c : Nat) (B : Option Addr) (m d : Nat) (i0 t0 l0 l1 l2 : Int) (pl : List Pr) (ql : List Jb) (w : World) (hP : Sl w 2 A n (PR pl)) (hQ : Sl w 5 B m (JB ql)) (hl : pl.length = n) (hr : ql.length = m) (hn : n ≤ 1000) (hm : m ≤ 1000) (hA : A = none → n = 0 ∧ c = 0) (hB : B = none → m = 0 ∧ d = 0) :
    Calls Try.prog 14 #[.agg #[.int .i64 i0, .int .i64 t0, .slice A n c, .slice B m d, .int .i64 l0, .int .i64 l1, .int .i64 l2]] w (RetState w i0 t0 l0 l1 l2 n (PR pl) m (JB ql)) := by
  have HP := Lib.hid hP
  have HQ := Lib.hid hQ
  have HA := Lib.hid hA
  have HB := Lib.hid hB
  have hL := Lib.hid hl
  have hR := Lib.hid hr
  clear hP hQ hA hB hl hr
  go_enter Try.func14, Try.ntmps14
  go_wp2_with fail
  refine calls_named ?_
  rintro v0 hv0
  have f0 : Below w.heap.size w v0 := by rw [hv0]; (repeat' (first | (with_reducible exact Below.refl _ _) | (with_reducible assumption) | (with_reducible refine Below.alloc ?_ ?_ _) | (with_reducible refine Below.drew ?_) | (with_reducible refine Below.setCell ?_ ?_ _) | (with_reducible refine bstep (by assumption) ?_ ?_) | (with_reducible exact Nat.le_refl _) | omega | (simp [*]; done) | (simp [*]; omega)))
  have z0 : w.heap.size + 2 ≤ v0.heap.size := by rw [hv0]; simp [size_set]
  have HP_0 := Lib.hid (HP.out.below f0)
  have HP_lt := Lib.hid (fun hn => HP.out.lt hn)
  have HQ_0 := Lib.hid (HQ.out.below f0)
  have HQ_lt := Lib.hid (fun hn => HQ.out.lt hn)
  have Ha_0 : Hid (Blk v0 w.heap.size 29 #[.int .i64 i0, .int .i64 t0, .slice A n c, .slice B m d, .int .i64 l0, .int .i64 l1, .int .i64 l2]) := by rw [hv0]; exact (Blk.new_at _ _ _ _ (by simp)).alloc _
  have Hr_0 : Hid (Blk v0 (w.heap.size + 1) 29 #[.int .i64 0, .int .i64 0, .slice none 0 0, .slice none 0 0, .int .i64 0, .int .i64 0, .int .i64 0]) := by rw [hv0]; exact Blk.new_at _ _ _ _ (by simp)
  clear hv0
  generalize hg1 : w.heap.size + 1 = g1 at *
  have lg1 : w.heap.size < g1 := by omega
  have lgz : g1 < v0.heap.size := by omega
  have nq1x0 : ¬ g1 = w.heap.size := by omega
  have nq0x1 : ¬ w.heap.size = g1 := by omega
  clear hg1
  have lt_a := Ha_0.out.lt
  obtain ⟨r_a0, r_a1, r_a2, r_a3, r_a4, r_a5, r_a6⟩ := bc7 Ha_0.out
  obtain ⟨z_a0, z_a1, z_a2, z_a3, z_a4, z_a5, z_a6⟩ := bf7 Ha_0.out
  have lt_r := Hr_0.out.lt
  obtain ⟨r_r0, r_r1, r_r2, r_r3, r_r4, r_r5, r_r6⟩ := bc7 Hr_0.out
  obtain ⟨z_r0, z_r1, z_r2, z_r3, z_r4, z_r5, z_r6⟩ := bf7 Hr_0.out
  refine (l14Copy_any A n c pl _ HP_0.out hL.out hn HA.out).mono ?_
  rintro e v1 ⟨A1, c1, rfl, Rx, b1⟩
  have f1 := bthen f0 b1
  have z1 := b1.size
  have HP_1 := Lib.hid (HP_0.out.below b1)
  have HQ_1 := Lib.hid (HQ_0.out.below b1)
  have Ha_1 := Lib.hid (Ha_0.out.below b1)
  have Hr_1 := Lib.hid (Hr_0.out.below b1)
  clear lt_a r_a0 r_a1 r_a2 r_a3 r_a4 r_a5 r_a6 z_a0 z_a1 z_a2 z_a3 z_a4 z_a5 z_a6 lt_r r_r0 r_r1 r_r2 r_r3 r_r4 r_r5 r_r6 z_r0 z_r1 z_r2 z_r3 z_r4 z_r5 z_r6
  clear HP_0 HQ_0 Ha_0 Hr_0
  have Hx_1 := Lib.hid Rx
  clear Rx
  have Lx := Lib.hid (Hx_1.out.lt)
  have lt_a := Ha_1.out.lt
  obtain ⟨r_a0, r_a1, r_a2, r_a3, r_a4, r_a5, r_a6⟩ := bc7 Ha_1.out
  obtain ⟨z_a0, z_a1, z_a2, z_a3, z_a4, z_a5, z_a6⟩ := bf7 Ha_1.out
  have lt_r := Hr_1.out.lt
  obtain ⟨r_r0, r_r1, r_r2, r_r3, r_r4, r_r5, r_r6⟩ := bc7 Hr_1.out
  obtain ⟨z_r0, z_r1, z_r2, z_r3, z_r4, z_r5, z_r6⟩ := bf7 Hr_1.out
  go_wp2_with fail
  refine calls_named ?_
  rintro v2 hv2
  have f2 : Below w.heap.size w v2 := by rw [hv2]; (repeat' (first | (with_reducible exact Below.refl _ _) | (with_reducible assumption) | (with_reducible refine Below.alloc ?_ ?_ _) | (with_reducible refine Below.drew ?_) | (with_reducible refine Below.setCell ?_ ?_ _) | (with_reducible refine bstep (by assumption) ?_ ?_) | (with_reducible exact Nat.le_refl _) | omega | (simp [*]; done) | (simp [*]; omega)))
  have z2 : v1.heap.size + 0 ≤ v2.heap.size := by rw [hv2]; simp [size_set]
  have HP_2 : Hid (Sl v2 2 A n (PR pl)) := by rw [hv2]; exact (HP_1.out).far (p := ⟨w.heap.size, 2, none⟩) (fun hn a ha => by have := HP_lt.out hn a ha; show a.block ≠ w.heap.size; omega) _
  have HQ_2 : Hid (Sl v2 5 B m (JB ql)) := by rw [hv2]; exact (HQ_1.out).far (p := ⟨w.heap.size, 2, none⟩) (fun hn a ha => by have := HQ_lt.out hn a ha; show a.block ≠ w.heap.size; omega) _
  have Ha_2 : Hid (Blk v2 w.heap.size 29 #[.int .i64 i0, .int .i64 t0, .slice A1 n c1, .slice B m d, .int .i64 l0, .int .i64 l1, .int .i64 l2]) := by rw [hv2]; exact (Ha_1.out).set_ 2 _
  have Hr_2 : Hid (Blk v2 g1 29 #[.int .i64 0, .int .i64 0, .slice none 0 0, .slice none 0 0, .int .i64 0, .int .i64 0, .int .i64 0]) := by rw [hv2]; exact (Hr_1.out).far (p := ⟨w.heap.size, 2, none⟩) (show g1 ≠ w.heap.size by omega) _
  have Hx_2 : Hid (Row v2 v0.heap.size 82 2 A1 n c1 (PR pl)) := by rw [hv2]; exact (Hx_1.out).far (p := ⟨w.heap.size, 2, none⟩) (fun a ha => by have := (Hx_1.out).ge a ha; show a.block ≠ w.heap.size; omega) _
  clear lt_a r_a0 r_a1 r_a2 r_a3 r_a4 r_a5 r_a6 z_a0 z_a1 z_a2 z_a3 z_a4 z_a5 z_a6 lt_r r_r0 r_r1 r_r2 r_r3 r_r4 r_r5 r_r6 z_r0 z_r1 z_r2 z_r3 z_r4 z_r5 z_r6
  clear hv2 HP_1 HQ_1 Ha_1 Hr_1 Hx_1
  have lt_a := Ha_2.out.lt
  obtain ⟨r_a0, r_a1, r_a2, r_a3, r_a4, r_a5, r_a6⟩ := bc7 Ha_2.out
  obtain ⟨z_a0, z_a1, z_a2, z_a3, z_a4, z_a5, z_a6⟩ := bf7 Ha_2.out
  have lt_r := Hr_2.out.lt
  obtain ⟨r_r0, r_r1, r_r2, r_r3, r_r4, r_r5, r_r6⟩ := bc7 Hr_2.out
  obtain ⟨z_r0, z_r1, z_r2, z_r3, z_r4, z_r5, z_r6⟩ := bf7 Hr_2.out
  refine (l15Copy_any B m d ql _ HQ_2.out hR.out hm HB.out).mono ?_
  rintro e v3 ⟨B1, d1, rfl, Ry, b3⟩
  have f3 := bthen f2 b3
  have z3 := b3.size
  have HP_3 := Lib.hid (HP_2.out.below b3)
  have HQ_3 := Lib.hid (HQ_2.out.below b3)
  have Ha_3 := Lib.hid (Ha_2.out.below b3)
  have Hr_3 := Lib.hid (Hr_2.out.below b3)
  have Hx_3 := Lib.hid (Hx_2.out.below b3)
  clear lt_a r_a0 r_a1 r_a2 r_a3 r_a4 r_a5 r_a6 z_a0 z_a1 z_a2 z_a3 z_a4 z_a5 z_a6 lt_r r_r0 r_r1 r_r2 r_r3 r_r4 r_r5 r_r6 z_r0 z_r1 z_r2 z_r3 z_r4 z_r5 z_r6
  clear HP_2 HQ_2 Ha_2 Hr_2 Hx_2
  have Hy_3 := Lib.hid Ry
  clear Ry
  have hap : ∀ a b, A1 = some a → B1 = some b → a.block ≠ b.block := fun a b ha hb => by
    have h1 := Lx.out a ha
    have h2 := Hy_3.out.ge b hb
    omega
  have HAP := Lib.hid hap
  clear hap
  have lt_a := Ha_3.out.lt
  obtain ⟨r_a0, r_a1, r_a2, r_a3, r_a4, r_a5, r_a6⟩ := bc7 Ha_3.out
  obtain ⟨z_a0, z_a1, z_a2, z_a3, z_a4, z_a5, z_a6⟩ := bf7 Ha_3.out
  have lt_r := Hr_3.out.lt
  obtain ⟨r_r0, r_r1, r_r2, r_r3, r_r4, r_r5, r_r6⟩ := bc7 Hr_3.out
  obtain ⟨z_r0, z_r1, z_r2, z_r3, z_r4, z_r5, z_r6⟩ := bf7 Hr_3.out
  go_wp21
  refine bodyPost_ret (v := .agg #[.int .i64 i0, .int .i64 t0, .slice A1 n c1, .slice B1 m d1, .int .i64 l0, .int .i64 l1, .int .i64 l2]) (by simp [results, Try.results14, go_sem, *]) rfl ?_
  exact ⟨A1, c1, B1, d1, rfl, (((((((((Hx_3.out).far (p := ⟨w.heap.size, 3, none⟩) (fun a ha => by have := (Hx_3.out).ge a ha; show a.block ≠ w.heap.size; omega) _).far (p := ⟨g1, 0, none⟩) (fun a ha => by have := (Hx_3.out).ge a ha; show a.block ≠ g1; omega) _).far (p := ⟨g1, 1, none⟩) (fun a ha => by have := (Hx_3.out).ge a ha; show a.block ≠ g1; omega) _).far (p := ⟨g1, 2, none⟩) (fun a ha => by have := (Hx_3.out).ge a ha; show a.block ≠ g1; omega) _).far (p := ⟨g1, 3, none⟩) (fun a ha => by have := (Hx_3.out).ge a ha; show a.block ≠ g1; omega) _).far (p := ⟨g1, 4, none⟩) (fun a ha => by have := (Hx_3.out).ge a ha; show a.block ≠ g1; omega) _).far (p := ⟨g1, 5, none⟩) (fun a ha => by have := (Hx_3.out).ge a ha; show a.block ≠ g1; omega) _).far (p := ⟨g1, 6, none⟩) (fun a ha => by have := (Hx_3.out).ge a ha; show a.block ≠ g1; omega) _).mono (by omega), (((((((((Hy_3.out).far (p := ⟨w.heap.size, 3, none⟩) (fun a ha => by have := (Hy_3.out).ge a ha; show a.block ≠ w.heap.size; omega) _).far (p := ⟨g1, 0, none⟩) (fun a ha => by have := (Hy_3.out).ge a ha; show a.block ≠ g1; omega) _).far (p := ⟨g1, 1, none⟩) (fun a ha => by have := (Hy_3.out).ge a ha; show a.block ≠ g1; omega) _).far (p := ⟨g1, 2, none⟩) (fun a ha => by have := (Hy_3.out).ge a ha; show a.block ≠ g1; omega) _).far (p := ⟨g1, 3, none⟩) (fun a ha => by have := (Hy_3.out).ge a ha; show a.block ≠ g1; omega) _).far (p := ⟨g1, 4, none⟩) (fun a ha => by have := (Hy_3.out).ge a ha; show a.block ≠ g1; omega) _).far (p := ⟨g1, 5, none⟩) (fun a ha => by have := (Hy_3.out).ge a ha; show a.block ≠ g1; omega) _).far (p := ⟨g1, 6, none⟩) (fun a ha => by have := (Hy_3.out).ge a ha; show a.block ≠ g1; omega) _).mono (by omega), HAP.out, by (repeat' (first | (with_reducible exact Below.refl _ _) | (with_reducible assumption) | (with_reducible refine Below.alloc ?_ ?_ _) | (with_reducible refine Below.drew ?_) | (with_reducible refine Below.setCell ?_ ?_ _) | (with_reducible refine bstep (by assumption) ?_ ?_) | (with_reducible exact Nat.le_refl _) | omega | (simp [*]; done) | (simp [*]; omega)))⟩
theorem below_und {v w' : World} (h : Below v.drew.heap.size v.drew w') : Below v.heap.size v w' := ⟨h.os, h.tape, h.output, h.size, h.block⟩
end Go.Proofs.Ytokklkmibjpjnaa
namespace Go.Proofs.Ytokklkmibjpjnaa
set_option linter.unusedSimpArgs false
set_option linter.unusedVariables false
attribute [local go_sem] n_lt2 n_lt3 n_lt4 n_le2 n_le3
open Go.RowKit
attribute [local go_sem] Ext.cell Ext.frozen

theorem putRS_any (A : Option Addr) (n cap : Nat) (l : List Pr) (key v : Int) (w : World) (hS : Sl w 2 A n (PR l)) (hl : l.length = n) (hn : n ≤ maxLen) (hA : A = none → n = 0 ∧ cap = 0) :
    Calls Try.prog 45 #[.slice A n cap, .int .i64 key, .int .i64 v] w (RetRowB w 82 2 (putR l key v).1.length (PR (putR l key v).1) (putR l key v).2) := specPut_any A n cap l key v w hS hl hn hA
end Go.Proofs.Ytokklkmibjpjnaa
namespace Go.Proofs.Ytokklkmibjpjnaa
set_option linter.unusedSimpArgs false
set_option linter.unusedVariables false
attribute [local go_sem] n_lt2 n_lt3 n_lt4 n_le2 n_le3
open Go.RowKit

/-- What Insert leaves: the row with the new element. -/
def InsResJob (lo n i : Nat) (zs vs : List Int) (w : World) (e : Ending) (w' : World) : Prop := ∃ A' cap', e = .returned (.slice A' (n + 1) cap') ∧ Row w' lo 70 5 A' (n + 1) cap' (zs.take (i * 5) ++ vs ++ zs.drop (i * 5)) ∧ Below lo w w'
end Go.Proofs.Ytokklkmibjpjnaa
namespace Go.Proofs.Ytokklkmibjpjnaa
set_option linter.unusedSimpArgs false
set_option linter.unusedVariables false
attribute [local go_sem] n_lt2 n_lt3 n_lt4 n_le2 n_le3
open Go.RowKit
attribute [local go_sem] Ext.cell Ext.frozen

theorem addR_no {l : List Jb} {x : Jb} (h : jobsB l = true) (hn : addOk l x = false) : addR l x = (l, false) := by unfold addR; rw [if_pos h, if_neg (by rw [hn]; decide)]
theorem addR_yes {l : List Jb} {x : Jb} (h : jobsB l = true) (hn : addOk l x = true) : addR l x = (addL l x, true) := by unfold addR; rw [if_pos h, if_pos hn]
theorem boxed5 {w : World} {g : Nat} {E : TypeId} {a b c d e : Int} (K : Blk w g E #[.int .i64 a, .int .i64 b, .int .i64 c, .int .i64 d, .int .i64 e]) :
    w.cell? ⟨g, 0, none⟩ = some (.int .i64 a) ∧ w.cell? ⟨g, 1, none⟩ = some (.int .i64 b) ∧ w.cell? ⟨g, 2, none⟩ = some (.int .i64 c) ∧ w.cell? ⟨g, 3, none⟩ = some (.int .i64 d) ∧ w.cell? ⟨g, 4, none⟩ = some (.int .i64 e) :=
  ⟨K.cell 0, K.cell 1, K.cell 2, K.cell 3, K.cell 4⟩
end Go.Proofs.Ytokklkmibjpjnaa
namespace Go.Proofs.Ytokklkmibjpjnaa
set_option linter.unusedSimpArgs false
set_option linter.unusedVariables false
attribute [local go_sem] n_lt2 n_lt3 n_lt4 n_le2 n_le3
open Go.RowKit
attribute [local go_sem] Ext.cell Ext.frozen

set_option maxRecDepth 100000 in
set_option maxHeartbeats 4000000 in
theorem specJobAdded_walk (A : Option Addr) (n cap : Nat) (l : List Jb) (x0 x1 x2 x3 x4 : Int) (w : World) (hS : Sl w 5 A n (JB l)) (hl : l.length = n) (hn : n ≤ maxLen) (hA : A = none → n = 0 ∧ cap = 0) :
    Calls Try.prog 47 #[.slice A n cap, .agg #[.int .i64 x0, .int .i64 x1, .int .i64 x2, .int .i64 x3, .int .i64 x4]] w (RetJobs w (addR l ⟨x0, x1, x2, x3, x4⟩)) := by
  by_cases hpa : jobsB l = true
  · have h8 : n ≤ 8 := by have := (jobsB_all hpa).1; omega
    have HL := Lib.hid hl
    have HS := Lib.hid hS
    have HPA := Lib.hid hpa
    have hjr : ∀ key, jobAtR l key = jobAtV l key := fun key => by unfold jobAtR; rw [if_pos hpa]
    have HJR := Lib.hid hjr
    obtain ⟨⟨⟨y0, y1, y2, y3, y4⟩, u⟩, hva⟩ : ∃ v, jobAtV l x0 = v := ⟨_, rfl⟩
    have HVA := Lib.hid hva
    have hu : (jobAtV l x0).2 = u := by rw [hva]
    have HU := Lib.hid hu
    clear hpa hl hS hva hu hjr
    go_enter Try.func47, Try.ntmps47
    go_wp2_with fail
    refine calls_named ?_
    rintro w0 hw0
    have K0 : Blk w0 w.heap.size 70 #[.int .i64 x0, .int .i64 x1, .int .i64 x2, .int .i64 x3, .int .i64 x4] := by rw [hw0]; exact Blk.new _ _ _
    have b0 : Below w.heap.size w w0 := by rw [hw0]; (repeat' (first | (with_reducible exact Below.refl _ _) | (with_reducible assumption) | (with_reducible refine Below.alloc ?_ ?_ _) | (with_reducible refine Below.drew ?_) | (with_reducible refine Below.setCell ?_ ?_ _) | (with_reducible refine bstep (by assumption) ?_ ?_) | (with_reducible exact Nat.le_refl _) | omega | (simp [*]; done) | (simp [*]; omega)))
    clear hw0
    have c1 := specJobsOk_any A n cap l w0 (HS.out.below b0) HL.out hn
    rw [HPA.out] at c1
    refine c1.mono ?_
    rintro e w1 ⟨rfl, b1⟩
    have K1 := K0.below b1
    have f1 := bthen b0 b1
    clear K0 b0 b1 c1
    have c3 := specJobAt_any A n cap l x0 w1 (HS.out.below f1) HL.out hn
    rw [HJR.out, HVA.out] at c3
    have q0 := (boxed5 K1).1
    have lt1 := K1.lt
    go_wp2_with fail
    refine c3.mono ?_
    rintro e w2 ⟨rfl, b2⟩
    have K2 := K1.below b2
    have f2 := bthen f1 b2
    have hs2 := f2.size
    clear q0 lt1 c3 K1 f1 b2
    have lt2 := K2.lt
    obtain ⟨q0, q1, q2, q3, q4⟩ := boxed5 K2
    have HK2 := Lib.hid K2
    clear K2
    go_wp2_with fail
    refine (specJobOk_any _ _ _ _ _ _).mono ?_
    rintro e w4 ⟨rfl, b4⟩
    have K4 := (HK2.out.alloc _).below b4
    have f4 := bstep b4 (f2.alloc hs2 _) (by simp; omega)
    have lt4 := K4.lt
    clear q0 q1 q2 q3 q4 b4 f2 HK2 hs2 lt2
    obtain ⟨q0, q1, q2, q3, q4⟩ := boxed5 K4
    have HK4 := Lib.hid K4
    have hs4 := f4.size
    clear K4
    by_cases hyes : addOk l ⟨x0, x1, x2, x3, x4⟩ = true
    · have hy := hyes
      unfold addOk jobOkB at hy
      simp only [Bool.and_eq_true, decide_eq_true_eq, Bool.not_eq_true'] at hy
      obtain ⟨hok, hf, hu, hlt8⟩ := hy
      rw [HU.out] at hu
      subst hu
      rw [hok]
      have hrng : 1 ≤ x0 ∧ x0 ≤ 20 := by
        have := hok
        unfold jobB at this
        simp only [Bool.and_eq_true, inB_iff] at this
        exact this.1
      have hthere : ∀ p ∈ l, p.i ≠ x0 := jobAtV_there HU.out
      have HF := Lib.hid (addR_yes HPA.out hyes)
      have HT := Lib.hid (addTo_all (x := ⟨x0, x1, x2, x3, x4⟩) HPA.out hrng hthere)
      have hf' : (x4 == 0) = true := by simpa using hf
      have hn8 : ¬ (8 : Int) ≤ (n : Int) := by have := HL.out; omega
      have HX4 := Lib.hid hf
      have hfn : (x4 != 0) = false := by simp [hf]
      clear hyes hok hrng hthere hlt8 hf
      go_wp2
      go_loopw [8, 9] (fun o i wr => ∃ (k : Nat) (A0 : Option Addr) (n0 c0 : Nat) (zs : List Int), k ≤ 20 ∧ n0 ≤ k ∧ i = .int .i64 ((k : Int) + 1) ∧ o = .slice A0 n0 c0 ∧ Row wr w4.heap.size 70 5 A0 n0 c0 zs ∧ Hid (zs = JB (addTo l ⟨x0, x1, x2, x3, x4⟩ k)) ∧ Below w4.heap.size w4 wr) (fun _ i _ => 21 - (intOf i).toNat)
      case atStart => exact ⟨0, _, _, _, _, by omega, Nat.le_refl _, by simp, rfl, row0p (Blk.new w4 _ _) (Nat.le_refl _), Lib.hid rfl, (Below.refl _ _).alloc (Nat.le_refl _) _⟩
      case round =>
        obtain ⟨k, A0, n0, c0, zs, hk, hn0, rfl, rfl, R, hz, hbl⟩ := hrel
        have fr := bthen f4 hbl
        by_cases hlt : k < 20
        · have hlt' : (k : Int) + 1 ≤ 20 := by omega
          obtain ⟨⟨⟨z0, z1, z2, z3, z4⟩, v⟩, hvz⟩ : ∃ v, jobAtV l ((k : Int) + 1) = v := ⟨_, rfl⟩
          have c5 := specJobAt_any A n cap l ((k : Int) + 1) wr (HS.out.below fr) HL.out hn
          rw [HJR.out, hvz] at c5
          have HVZ := Lib.hid hvz
          clear hvz
          go_wp2_with fail
          refine c5.mono ?_
          rintro e w5 ⟨rfl, b5⟩
          have R5 := R.below b5
          have hbl5 := bthen hbl b5
          have K5 := HK4.out.below hbl5
          have hs5 := hbl5.size
          have lt5 := K5.lt
          clear q0 q1 q2 q3 q4 b5 c5 R fr hbl
          obtain ⟨q0, q1, q2, q3, q4⟩ := boxed5 K5
          clear K5
          by_cases hkk : (k : Int) + 1 = x0
          · have HE := Lib.hid (show JB (addTo l ⟨x0, x1, x2, x3, x4⟩ (k + 1)) = JB (addTo l ⟨x0, x1, x2, x3, x4⟩ k) ++ [x0, x1, x2, x3, x4] by rw [addTo_succ, JB_append]; congr 1; unfold addG; rw [if_pos hkk]; rfl)
            have hkk' : ((k : Int) + 1 == x0) = true := by simpa using hkk
            have hkn : x0 = (k : Int) + 1 := hkk.symm
            clear hkk hkn
            go_wp2_with (at_builtin; refine wpList_append_row rfl _ _ 25 rfl 70 (.agg #[.int .i64 0, .int .i64 0, .int .i64 0, .int .i64 0, .int .i64 0]) 5 40 Try.underlying25 info_Job (by first | kernel_rfl | simp [Value.cells]) (by decide) w4.heap.size A0 n0 c0 zs rfl (World.ownsRow.alloc (World.ownsRow.alloc R5 _) _) ⟨w5.heap.size + 1, 0, none⟩ 1 1 [x0, x1, x2, x3, x4] rfl rfl (cell_five_at _ _ _ _ _ _ _ _ (by simp)) (by unfold maxLen; omega) (by omega) (by simp; omega) ?_; intro A6 c6 w6 R6 B6)
            refine ⟨⟨k + 1, A6, _, c6, _, by omega, by omega, by go_num, rfl, R6, Lib.hid (by rw [HE.out, hz.out]), ((hbl5.alloc hs5 _).alloc (by simp; omega) _).trans B6⟩, by simp [intOf]; omega⟩
          · have hkk' : ((k : Int) + 1 == x0) = false := by simpa using hkk
            cases v
            · have HE := Lib.hid (show JB (addTo l ⟨x0, x1, x2, x3, x4⟩ (k + 1)) = JB (addTo l ⟨x0, x1, x2, x3, x4⟩ k) by rw [addTo_succ, JB_append]; unfold addG; rw [if_neg hkk, HVZ.out]; simp [JB])
              clear hkk
              go_wp2
              exact ⟨⟨k + 1, A0, n0, c0, zs, by omega, by omega, by go_num, rfl, World.ownsRow.alloc R5 _, Lib.hid (by rw [HE.out, hz.out]), hbl5.alloc hs5 _⟩, by simp [intOf]; omega⟩
            · have HE := Lib.hid (show JB (addTo l ⟨x0, x1, x2, x3, x4⟩ (k + 1)) = JB (addTo l ⟨x0, x1, x2, x3, x4⟩ k) ++ [z0, z1, z2, z3, z4] by rw [addTo_succ, JB_append]; unfold addG; rw [if_neg hkk, HVZ.out]; simp [JB])
              clear hkk
              go_wp2_with (at_builtin; refine wpList_append_row rfl _ _ 25 rfl 70 (.agg #[.int .i64 0, .int .i64 0, .int .i64 0, .int .i64 0, .int .i64 0]) 5 40 Try.underlying25 info_Job (by first | kernel_rfl | simp [Value.cells]) (by decide) w4.heap.size A0 n0 c0 zs rfl (World.ownsRow.alloc (World.ownsRow.alloc R5 _) _) ⟨w5.heap.size + 1, 0, none⟩ 1 1 [z0, z1, z2, z3, z4] rfl rfl (cell_five_at _ _ _ _ _ _ _ _ (by simp)) (by unfold maxLen; omega) (by omega) (by simp; omega) ?_; intro A6 c6 w6 R6 B6)
              refine ⟨⟨k + 1, A6, _, c6, _, by omega, by omega, by go_num, rfl, R6, Lib.hid (by rw [HE.out, hz.out]), ((hbl5.alloc hs5 _).alloc (by simp; omega) _).trans B6⟩, by simp [intOf]; omega⟩
        · obtain rfl : k = 20 := by omega
          go_wp2
          refine bodyPost_ret (v := .tuple #[.slice A0 n0 c0, .bool true]) (by simp [results, Try.results47, go_sem, *]) rfl ?_
          have hzz := hz.out
          rw [HT.out] at hzz
          subst hzz
          refine retJobs HF.out ?_ (R.mono hs4) fr
          have := R.len
          rw [JB_len] at this
          omega
    · have hno : addOk l ⟨x0, x1, x2, x3, x4⟩ = false := by simpa using hyes
      have HF := Lib.hid (addR_no HPA.out hno)
      have hcs : jobB x0 x1 x2 x3 x4 = false ∨ (jobB x0 x1 x2 x3 x4 = true ∧ x4 ≠ 0) ∨ (jobB x0 x1 x2 x3 x4 = true ∧ x4 = 0 ∧ u = true) ∨ (jobB x0 x1 x2 x3 x4 = true ∧ x4 = 0 ∧ u = false ∧ (8 : Int) ≤ (n : Int)) := by
        by_cases h1 : jobB x0 x1 x2 x3 x4 = true
        · by_cases h2 : x4 = 0
          · cases hu : u
            · refine .inr (.inr (.inr ⟨h1, h2, rfl, ?_⟩))
              have h3 := HU.out
              rw [hu] at h3
              unfold addOk jobOkB at hno
              simp only at hno
              rw [h1, h3, decide_eq_true h2] at hno
              simp at hno
              have := HL.out
              omega
            · exact .inr (.inr (.inl ⟨h1, h2, rfl⟩))
          · exact .inr (.inl ⟨h1, h2⟩)
        · exact .inl (by simpa using h1)
      clear hyes hno
      have fin : ∀ w7 A7 c7, RetRow w4 70 5 n (JB l) (.returned (.slice A7 n c7)) w7 → RetJobs w (addR l ⟨x0, x1, x2, x3, x4⟩) (.returned (.tuple #[.slice A7 n c7, .bool false])) w7 := by
        rintro w7 A7 c7 ⟨A8, c8, he, R8, b8⟩
        injection he with he
        injection he with h1 _ h3
        subst h1 h3
        exact retJobs HF.out HL.out.symm (R8.mono hs4) (bthen f4 b8)
      have FIN := Lib.hid fin
      have COPY := Lib.hid (l15Copy_any A n cap l w4 (HS.out.below f4) HL.out (by omega) hA)
      clear fin
      rcases hcs with h1 | ⟨h1, h2⟩ | ⟨h1, h2, rfl⟩ | ⟨h1, h2, rfl, h3⟩
      · rw [h1]
        go_wp2_with fail
        refine COPY.out.mono ?_
        rintro e w7 ⟨A7, c7, rfl, R7, b7⟩
        go_wp2
        exact bodyPost_ret (v := .tuple #[.slice A7 n c7, .bool false]) (by simp [results, Try.results47, go_sem, *]) rfl (FIN.out _ _ _ ⟨A7, c7, rfl, R7, b7⟩)
      · rw [h1]
        have hfn : (x4 != 0) = true := by simpa using h2
        clear h2
        go_wp2_with fail
        refine COPY.out.mono ?_
        rintro e w7 ⟨A7, c7, rfl, R7, b7⟩
        go_wp2
        exact bodyPost_ret (v := .tuple #[.slice A7 n c7, .bool false]) (by simp [results, Try.results47, go_sem, *]) rfl (FIN.out _ _ _ ⟨A7, c7, rfl, R7, b7⟩)
      · rw [h1]
        have hfn : (x4 != 0) = false := by simpa using h2
        clear h2
        go_wp2_with fail
        refine COPY.out.mono ?_
        rintro e w7 ⟨A7, c7, rfl, R7, b7⟩
        go_wp2
        exact bodyPost_ret (v := .tuple #[.slice A7 n c7, .bool false]) (by simp [results, Try.results47, go_sem, *]) rfl (FIN.out _ _ _ ⟨A7, c7, rfl, R7, b7⟩)
      · rw [h1]
        have hfn : (x4 != 0) = false := by simpa using h2
        clear h2
        go_wp2_with fail
        refine COPY.out.mono ?_
        rintro e w7 ⟨A7, c7, rfl, R7, b7⟩
        go_wp2
        exact bodyPost_ret (v := .tuple #[.slice A7 n c7, .bool false]) (by simp [results, Try.results47, go_sem, *]) rfl (FIN.out _ _ _ ⟨A7, c7, rfl, R7, b7⟩)
  · have hpa' : jobsB l = false := by simpa using hpa
    have HF := Lib.hid (show addR l ⟨x0, x1, x2, x3, x4⟩ = ([], false) by unfold addR; rw [if_neg hpa])
    go_enter Try.func47, Try.ntmps47
    go_wp2_with fail
    refine calls_named ?_
    rintro w0 hw0
    have b0 : Below w.heap.size w w0 := by rw [hw0]; (repeat' (first | (with_reducible exact Below.refl _ _) | (with_reducible assumption) | (with_reducible refine Below.alloc ?_ ?_ _) | (with_reducible refine Below.drew ?_) | (with_reducible refine Below.setCell ?_ ?_ _) | (with_reducible refine bstep (by assumption) ?_ ?_) | (with_reducible exact Nat.le_refl _) | omega | (simp [*]; done) | (simp [*]; omega)))
    clear hw0
    have c1 := specJobsOk_any A n cap l w0 (hS.below b0) hl hn
    rw [hpa'] at c1
    refine c1.mono ?_
    rintro e w1 ⟨rfl, b1⟩
    have f1 := bthen b0 b1
    go_wp2
    refine bodyPost_ret (v := .tuple #[.slice (some ⟨w1.heap.size, 0, none⟩) 0 0, .bool false]) (by simp [results, Try.results47, go_sem, *]) rfl ?_
    exact retJobs HF.out rfl (row0p (Blk.new w1 _ _) f1.size) (f1.alloc f1.size _)
theorem addedRS_any (A : Option Addr) (n cap : Nat) (l : List Jb) (x0 x1 x2 x3 x4 : Int) (w : World) (hS : Sl w 5 A n (JB l)) (hl : l.length = n) (hn : n ≤ maxLen) (hA : A = none → n = 0 ∧ cap = 0) :
    Calls Try.prog 47 #[.slice A n cap, .agg #[.int .i64 x0, .int .i64 x1, .int .i64 x2, .int .i64 x3, .int .i64 x4]] w (RetRowB w 70 5 (addR l ⟨x0, x1, x2, x3, x4⟩).1.length (JB (addR l ⟨x0, x1, x2, x3, x4⟩).1) (addR l ⟨x0, x1, x2, x3, x4⟩).2) := specJobAdded_walk A n cap l x0 x1 x2 x3 x4 w hS hl hn hA
end Go.Proofs.Ytokklkmibjpjnaa
namespace Go.Proofs.Ytokklkmibjpjnaa
set_option linter.unusedSimpArgs false
set_option linter.unusedVariables false
attribute [local go_sem] n_lt2 n_lt3 n_lt4 n_le2 n_le3
open Go.RowKit
attribute [local go_sem] Ext.cell Ext.frozen

/-- The reference's two running values. -/
def idxTo (l : List Jb) (x : Int) (k : Nat) : Int := if firedBefore l k x = true then 0 else x
def atTo (l : List Jb) (id : Int) (k : Nat) : Int := if jobIx l id < k ∧ jobIx l id < l.length ∧ (l.getD (jobIx l id) default).f = 0 then (jobIx l id : Int) else -1
theorem idxTo_hit {l : List Jb} {x : Int} {k : Nat} (h : (l.getD k default).f = idxTo l x k) : idxTo l x (k + 1) = 0 := by
  unfold idxTo at h ⊢
  rw [firedBefore_succ]
  by_cases hb : firedBefore l k x = true
  · rw [hb]; rfl
  · have hb' : firedBefore l k x = false := by simpa using hb
    rw [if_neg hb] at h
    rw [hb', decide_eq_true h]
    rfl
theorem idxTo_miss {l : List Jb} {x : Int} {k : Nat} (h : ¬ (l.getD k default).f = idxTo l x k) : idxTo l x (k + 1) = idxTo l x k := by
  unfold idxTo at h ⊢
  rw [firedBefore_succ]
  by_cases hb : firedBefore l k x = true
  · rw [hb]; rfl
  · have hb' : firedBefore l k x = false := by simpa using hb
    rw [if_neg hb] at h
    rw [hb', decide_eq_false h]
    rfl
theorem atTo_hit {l : List Jb} {id : Int} {k : Nat} (hb : jobsB l = true) (hk : k < l.length) (h1 : (l.getD k default).i = id) (h2 : (l.getD k default).f = 0) : atTo l id (k + 1) = k := by
  unfold atTo
  rw [jobIx_at hb hk h1, if_pos ⟨by omega, hk, h2⟩]
theorem atTo_miss {l : List Jb} {id : Int} {k : Nat} (hk : k < l.length) (h : ¬ ((l.getD k default).i = id ∧ (l.getD k default).f = 0)) : atTo l id (k + 1) = atTo l id k := by
  unfold atTo
  by_cases hx : jobIx l id = k
  · rw [hx, if_neg (fun h' => h ⟨by rw [← hx]; exact jobIx_hit (by omega), h'.2.2⟩), if_neg (fun h' => by omega)]
  · by_cases h1 : jobIx l id < k ∧ jobIx l id < l.length ∧ (l.getD (jobIx l id) default).f = 0
    · rw [if_pos h1, if_pos ⟨by omega, h1.2⟩]
    · rw [if_neg h1, if_neg (fun h' => h1 ⟨by omega, h'.2⟩)]
set_option maxRecDepth 100000 in
set_option maxHeartbeats 4000000 in
theorem specJobFired_walk (A : Option Addr) (n cap : Nat) (l : List Jb) (id x : Int) (w : World) (hS : Sl w 5 A n (JB l)) (hl : l.length = n) (hn : n ≤ maxLen) (hA : A = none → n = 0 ∧ cap = 0) :
    Calls Try.prog 50 #[.slice A n cap, .int .i64 id, .int .i64 x] w (RetJobs w (firedR l id x)) := by
  have c1 := specJobsOk_any A n cap l w hS hl hn
  by_cases hpa : jobsB l = true
  · have h8 : n ≤ 8 := by have := (jobsB_all hpa).1; omega
    rw [hpa] at c1
    have HL := Lib.hid hl
    have HS := Lib.hid hS
    have HPA := Lib.hid hpa
    clear hpa hl hS
    go_enter Try.func50, Try.ntmps50
    go_wp2_with fail
    refine c1.mono ?_
    rintro e w1 ⟨rfl, b1⟩
    go_wp2_with fail
    refine (l15Copy_any A n cap l w1 (HS.out.below b1) HL.out (by omega) hA).mono ?_
    rintro e w2 ⟨A2, cap2, rfl, R2, b2⟩
    have f2 := bthen b1 b2
    have R2 := R2.mono b1.size
    have S2 := Lib.hid (HS.out.below f2)
    clear b1 b2 c1
    go_wp2
    go_loop [2, 9, 10] (fun xi ai i => ∃ k : Nat, k ≤ n ∧ i = .int .i64 (k : Nat) ∧ xi = .int .i64 (idxTo l x k) ∧ ai = .int .i64 (atTo l id k)) (fun _ _ i => n - (intOf i).toNat)
    case atStart => exact ⟨0, Nat.zero_le _, rfl, by simp [idxTo, firedBefore], by simp [atTo]⟩
    case round =>
      obtain ⟨k, hk, rfl, rfl, rfl⟩ := hrel
      by_cases hlt : k < n
      · obtain ⟨b, off, rfl, hb, hcell⟩ := sl_jobs S2.out (by omega)
        obtain ⟨h0, _, _, _, h4⟩ := hcell k hlt
        clear hcell
        have hlt' : (k : Int) < (n : Int) := by omega
        have hkl : k < l.length := by have := HL.out; omega
        have e1 := Lib.hid (@idxTo_hit l x k)
        have e2 := Lib.hid (@idxTo_miss l x k)
        have e3 := Lib.hid (@atTo_hit l id k HPA.out hkl)
        have e4 := Lib.hid (@atTo_miss l id k hkl)
        generalize hp : l.getD k default = p at h0 h4
        obtain ⟨y0, y1, y2, y3, y4⟩ := p
        simp only at h0 h4
        generalize hc : idxTo l x k = c
        generalize ha : atTo l id k = a
        have HP := Lib.hid (And.intro hp (And.intro hc ha))
        clear hp hc ha hkl
        by_cases hf : y4 = c
        · have hx := Lib.hid (e1.out (by rw [HP.out.1, HP.out.2.1]; exact hf))
          by_cases hi : y0 = id
          · by_cases hz : y4 = 0
            · have hat := Lib.hid (e3.out (by rw [HP.out.1]; exact hi) (by rw [HP.out.1]; exact hz))
              have hf' : (y4 == c) = true := by simpa using hf
              have hi' : (y0 == id) = true := by simpa using hi
              have hz' : (y4 == 0) = true := by simpa using hz
              clear hf hi hz
              go_wp2
              exact ⟨⟨k + 1, by omega, by go_num, by rw [hx.out], by rw [hat.out]⟩, by simp [intOf]; omega⟩
            · have hat := Lib.hid (e4.out (by rw [HP.out.1]; exact fun h => hz h.2))
              have hf' : (y4 == c) = true := by simpa using hf
              have hi' : (y0 == id) = true := by simpa using hi
              have hz' : (y4 == 0) = false := by simpa using hz
              clear hf hi hz
              go_wp2
              exact ⟨⟨k + 1, by omega, by go_num, by rw [hx.out], by rw [hat.out, HP.out.2.2]⟩, by simp [intOf]; omega⟩
          · have hat := Lib.hid (e4.out (by rw [HP.out.1]; exact fun h => hi h.1))
            have hf' : (y4 == c) = true := by simpa using hf
            have hi' : (y0 == id) = false := by simpa using hi
            clear hf hi
            go_wp2
            exact ⟨⟨k + 1, by omega, by go_num, by rw [hx.out], by rw [hat.out, HP.out.2.2]⟩, by simp [intOf]; omega⟩
        · have hx := Lib.hid (e2.out (by rw [HP.out.1, HP.out.2.1]; exact hf))
          by_cases hi : y0 = id
          · by_cases hz : y4 = 0
            · have hat := Lib.hid (e3.out (by rw [HP.out.1]; exact hi) (by rw [HP.out.1]; exact hz))
              have hf' : (y4 == c) = false := by simpa using hf
              have hi' : (y0 == id) = true := by simpa using hi
              have hz' : (y4 == 0) = true := by simpa using hz
              clear hf hi hz
              go_wp2
              exact ⟨⟨k + 1, by omega, by go_num, by rw [hx.out, HP.out.2.1], by rw [hat.out]⟩, by simp [intOf]; omega⟩
            · have hat := Lib.hid (e4.out (by rw [HP.out.1]; exact fun h => hz h.2))
              have hf' : (y4 == c) = false := by simpa using hf
              have hi' : (y0 == id) = true := by simpa using hi
              have hz' : (y4 == 0) = false := by simpa using hz
              clear hf hi hz
              go_wp2
              exact ⟨⟨k + 1, by omega, by go_num, by rw [hx.out, HP.out.2.1], by rw [hat.out, HP.out.2.2]⟩, by simp [intOf]; omega⟩
          · have hat := Lib.hid (e4.out (by rw [HP.out.1]; exact fun h => hi h.1))
            have hf' : (y4 == c) = false := by simpa using hf
            have hi' : (y0 == id) = false := by simpa using hi
            clear hf hi
            go_wp2
            exact ⟨⟨k + 1, by omega, by go_num, by rw [hx.out, HP.out.2.1], by rw [hat.out, HP.out.2.2]⟩, by simp [intOf]; omega⟩
      · obtain rfl : k = n := by omega
        by_cases hat : jobIx l id < l.length ∧ (l.getD (jobIx l id) default).f = 0
        · obtain ⟨m, hm⟩ : ∃ m, m = jobIx l id := ⟨_, rfl⟩
          have ea : atTo l id k = (m : Int) := by unfold atTo; rw [if_pos ⟨by have := HL.out; omega, hat⟩, hm]
          have hmk : m < k := by have := HL.out; omega
          rw [ea]
          by_cases hin : inB (idxTo l x k) 1 2000 = true
          · have hfb : firedBefore l l.length x = false := by
              rw [← Bool.not_eq_true]
              intro h
              unfold idxTo at hin
              rw [← HL.out, if_pos h] at hin
              exact absurd hin (by decide)
            have ei : idxTo l x k = x := by unfold idxTo; rw [← HL.out, hfb]; rfl
            rw [ei] at hin ⊢
            have HF := Lib.hid (show firedR l id x = (firedSet l m x, true) by
              unfold firedR
              rw [if_pos HPA.out, if_pos, hm]
              unfold firedOk
              rw [hfb, hin, decide_eq_true hat.1, decide_eq_true hat.2]
              rfl)
            obtain ⟨g, cs, rfl, hlg, K, hcs, hj, _⟩ := R2.cells5 HL.out (by omega)
            have hcp := R2.cap_le
            have hcm : cap2 ≤ 9223372036854775807 := by have := hcp.2; unfold maxLen at this; omega
            have hmk' : (m : Int) < (k : Int) := by omega
            obtain ⟨c, hc5⟩ : ∃ c, w2.cell? ⟨g, m * 5 + 4, none⟩ = some c := K.has (by have := hcp.1; omega)
            have hfz := K.frozen (m * 5 + 4)
            have HK := Lib.hid (And.intro K (And.intro hcs (And.intro hj hcp)))
            clear K hcs hj hcp hat ei hfb ea hm
            go_wp2_with ((go_at_call 27; refine (l1In_any _ _ _ _).mono ?_; rintro e w' ⟨rfl, rfl⟩))
            refine bodyPost_ret (v := .tuple #[.slice (some ⟨g, 0, none⟩) k cap2, .bool true]) (by simp [results, Try.results50, go_sem, *]) rfl ?_
            exact retJobs HF.out (by simp [firedSet, HL.out]) (firedSet_row HK.out.1 hlg HK.out.2.2.2.1 HK.out.2.2.2.2 HK.out.2.1 HL.out HK.out.2.2.1 hmk) (f2.setCell hlg _)
          · have hin' : inB (idxTo l x k) 1 2000 = false := by simpa using hin
            have HF := Lib.hid (show firedR l id x = (l, false) by
              unfold firedR
              rw [if_pos HPA.out, if_neg]
              unfold firedOk
              intro h
              simp only [Bool.and_eq_true, decide_eq_true_eq, Bool.not_eq_true'] at h
              refine hin ?_
              unfold idxTo
              rw [← HL.out, h.2.2.2]
              exact h.2.2.1)
            generalize idxTo l x k = c at hin'
            clear hin hat ea hm
            go_wp2_with ((go_at_call 27; refine (l1In_any _ _ _ _).mono ?_; rintro e w' ⟨rfl, rfl⟩))
            refine bodyPost_ret (v := .tuple #[.slice A2 k cap2, .bool false]) (by simp [results, Try.results50, go_sem, *]) rfl ?_
            exact retJobs HF.out HL.out.symm R2 f2
        · have ea : atTo l id k = -1 := by unfold atTo; rw [if_neg (fun h => hat h.2)]
          rw [ea]
          have HF := Lib.hid (show firedR l id x = (l, false) by
            unfold firedR
            rw [if_pos HPA.out, if_neg]
            unfold firedOk
            intro h
            simp only [Bool.and_eq_true, decide_eq_true_eq] at h
            exact hat ⟨h.1, h.2.1⟩)
          generalize idxTo l x k = c
          clear hat ea
          go_wp2
          refine bodyPost_ret (v := .tuple #[.slice A2 k cap2, .bool false]) (by simp [results, Try.results50, go_sem, *]) rfl ?_
          exact retJobs HF.out HL.out.symm R2 f2
  · have hpa' : jobsB l = false := by simpa using hpa
    have HF := Lib.hid (show firedR l id x = ([], false) by unfold firedR; rw [if_neg hpa])
    rw [hpa'] at c1
    go_enter Try.func50, Try.ntmps50
    go_wp2_with fail
    refine c1.mono ?_
    rintro e w1 ⟨rfl, b1⟩
    go_wp2
    refine bodyPost_ret (v := .tuple #[.slice (some ⟨w1.heap.size, 0, none⟩) 0 0, .bool false]) (by simp [results, Try.results50, go_sem, *]) rfl ?_
    exact retJobs HF.out rfl (row0p (Blk.new w1 _ _) b1.size) (b1.alloc b1.size _)
theorem firedRS_any (A : Option Addr) (n cap : Nat) (l : List Jb) (id x : Int) (w : World) (hS : Sl w 5 A n (JB l)) (hl : l.length = n) (hn : n ≤ maxLen) (hA : A = none → n = 0 ∧ cap = 0) :
    Calls Try.prog 50 #[.slice A n cap, .int .i64 id, .int .i64 x] w (RetRowB w 70 5 (firedR l id x).1.length (JB (firedR l id x).1) (firedR l id x).2) := specJobFired_walk A n cap l id x w hS hl hn hA
end Go.Proofs.Ytokklkmibjpjnaa

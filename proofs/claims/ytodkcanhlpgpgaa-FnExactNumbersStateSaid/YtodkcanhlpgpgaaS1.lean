/- States: StateOk, the program's and the reference's. -/
import Derived.Test.YtodkcanhlpgpgaaSt1
import Derived.Test.YtodkcanhlpgpgaaP1
import Derived.Test.YtodkcanhlpgpgaaJ2
import Derived.Test.YtodkcanhlpgpgaaLease2
namespace Go.Proofs.Ytodkcanhlpgpgaa
set_option linter.unusedSimpArgs false
set_option linter.unusedVariables false
attribute [local go_sem] n_lt2 n_lt3 n_lt4 n_le2 n_le3
open Go.RowKit
def firedIn (ql : List Jb) (i0 : Int) : Bool := (List.range ql.length).all fun i => decide ((ql.getD i default).f ≤ i0)
def stateB (i0 t0 l0 l1 l2 : Int) (pl : List Pr) (ql : List Jb) : Bool := inB i0 0 2000 && (inB t0 0 1000000 && (pairsB pl && (jobsB ql && (leaseB l0 l1 l2 && firedIn ql i0))))
attribute [local go_sem] Ext.cell Ext.frozen
set_option maxRecDepth 100000 in
set_option maxHeartbeats 4000000 in
theorem stateOk_any (A : Option Addr) (n c : Nat) (B : Option Addr) (m d : Nat) (i0 t0 l0 l1 l2 : Int) (pl : List Pr) (ql : List Jb) (w : World) (hP : Sl w 2 A n (PR pl)) (hQ : Sl w 5 B m (JB ql)) (hl : pl.length = n) (hr : ql.length = m) (hn : n ≤ maxLen) (hm : m ≤ maxLen) :
    Calls Try.prog 13 #[.agg #[.int .i64 i0, .int .i64 t0, .slice A n c, .slice B m d, .int .i64 l0, .int .i64 l1, .int .i64 l2]] w fun e' w' => e' = .returned (.bool (stateB i0 t0 l0 l1 l2 pl ql)) ∧ Below w.heap.size w w' := by
  have hL := Lib.hid hl
  have hR := Lib.hid hr
  have HP := Lib.hid hP
  have HQ := Lib.hid hQ
  clear hP hQ hl hr
  go_enter Try.func13, Try.ntmps13
  go_wp2_with fail
  refine calls_named ?_
  rintro v0 hv0
  have f0 : Below w.heap.size w v0 := by rw [hv0]; (repeat' (first | (with_reducible exact Below.refl _ _) | (with_reducible assumption) | (with_reducible refine Below.alloc ?_ ?_ _) | (with_reducible refine Below.drew ?_) | (with_reducible refine Below.setCell ?_ ?_ _) | (with_reducible refine bstep (by assumption) ?_ ?_) | (with_reducible exact Nat.le_refl _) | omega | (simp [*]; done) | (simp [*]; omega)))
  have z0 : w.heap.size + 1 ≤ v0.heap.size := by rw [hv0]; simp [size_set]
  have HP_0 := Lib.hid (HP.out.below f0)
  have HP_lt := Lib.hid (fun hn => HP.out.lt hn)
  have HQ_0 := Lib.hid (HQ.out.below f0)
  have HQ_lt := Lib.hid (fun hn => HQ.out.lt hn)
  have Hc_0 : Hid (Blk v0 w.heap.size 34 #[.int .i64 i0, .int .i64 t0, .slice A n c, .slice B m d, .int .i64 l0, .int .i64 l1, .int .i64 l2]) := by rw [hv0]; exact Blk.new_at _ _ _ _ (by simp)
  clear hv0
  have lt_c := Hc_0.out.lt
  have r_c0 : v0.cell? ⟨w.heap.size, 0, none⟩ = some (.int .i64 i0) := Hc_0.out.cell 0
  have r_c1 : v0.cell? ⟨w.heap.size, 1, none⟩ = some (.int .i64 t0) := Hc_0.out.cell 1
  have r_c2 : v0.cell? ⟨w.heap.size, 2, none⟩ = some (.slice A n c) := Hc_0.out.cell 2
  have r_c3 : v0.cell? ⟨w.heap.size, 3, none⟩ = some (.slice B m d) := Hc_0.out.cell 3
  have r_c4 : v0.cell? ⟨w.heap.size, 4, none⟩ = some (.int .i64 l0) := Hc_0.out.cell 4
  have r_c5 : v0.cell? ⟨w.heap.size, 5, none⟩ = some (.int .i64 l1) := Hc_0.out.cell 5
  have r_c6 : v0.cell? ⟨w.heap.size, 6, none⟩ = some (.int .i64 l2) := Hc_0.out.cell 6
  have cc := between_any i0 0 2000 v0
  cases q1 : inB i0 0 2000 with
  | false =>
    rw [q1] at cc
    have Hq1 := Lib.hid q1
    clear q1
    refine (cc).mono ?_
    rintro e v' ⟨rfl, rfl⟩
    have hv : stateB i0 t0 l0 l1 l2 pl ql = false := by unfold stateB; rw [Hq1.out]; simp
    have HV := Lib.hid hv
    clear hv
    go_wp21
    go_ret
    exact ⟨ret_bool HV.out.symm, f0⟩
  | true =>
    rw [q1] at cc
    have Hq1 := Lib.hid q1
    clear q1
    refine (cc).mono ?_
    rintro e v' ⟨rfl, rfl⟩
    clear cc
    have cc := timeOk_any t0 v0
    cases q2 : inB t0 0 1000000 with
    | false =>
      rw [q2] at cc
      have Hq2 := Lib.hid q2
      clear q2
      go_wp2_with fail
      refine (cc).mono ?_
      rintro e v' ⟨rfl, rfl⟩
      have hv : stateB i0 t0 l0 l1 l2 pl ql = false := by unfold stateB; rw [Hq1.out, Hq2.out]; simp
      have HV := Lib.hid hv
      clear hv
      go_wp21
      go_ret
      exact ⟨ret_bool HV.out.symm, f0⟩
    | true =>
      rw [q2] at cc
      have Hq2 := Lib.hid q2
      clear q2
      go_wp2_with fail
      refine (cc).mono ?_
      rintro e v' ⟨rfl, rfl⟩
      clear cc
      have cc := pairsOk_any A n c pl v0 HP_0.out hL.out hn
      cases q3 : pairsB pl with
      | false =>
        rw [q3] at cc
        have Hq3 := Lib.hid q3
        clear q3
        go_wp2_with fail
        refine (cc).mono ?_
        rintro e v1 ⟨rfl, b1⟩
        have f1 := bthen f0 b1
        have z1 := b1.size
        have HP_1 := Lib.hid (HP_0.out.below b1)
        have HQ_1 := Lib.hid (HQ_0.out.below b1)
        have Hc_1 := Lib.hid (Hc_0.out.below b1)
        clear lt_c r_c0 r_c1 r_c2 r_c3 r_c4 r_c5 r_c6
        clear HP_0 HQ_0 Hc_0
        have lt_c := Hc_1.out.lt
        have r_c0 : v1.cell? ⟨w.heap.size, 0, none⟩ = some (.int .i64 i0) := Hc_1.out.cell 0
        have r_c1 : v1.cell? ⟨w.heap.size, 1, none⟩ = some (.int .i64 t0) := Hc_1.out.cell 1
        have r_c2 : v1.cell? ⟨w.heap.size, 2, none⟩ = some (.slice A n c) := Hc_1.out.cell 2
        have r_c3 : v1.cell? ⟨w.heap.size, 3, none⟩ = some (.slice B m d) := Hc_1.out.cell 3
        have r_c4 : v1.cell? ⟨w.heap.size, 4, none⟩ = some (.int .i64 l0) := Hc_1.out.cell 4
        have r_c5 : v1.cell? ⟨w.heap.size, 5, none⟩ = some (.int .i64 l1) := Hc_1.out.cell 5
        have r_c6 : v1.cell? ⟨w.heap.size, 6, none⟩ = some (.int .i64 l2) := Hc_1.out.cell 6
        have hv : stateB i0 t0 l0 l1 l2 pl ql = false := by unfold stateB; rw [Hq1.out, Hq2.out, Hq3.out]; simp
        have HV := Lib.hid hv
        clear hv
        go_wp21
        go_ret
        exact ⟨ret_bool HV.out.symm, f1⟩
      | true =>
        rw [q3] at cc
        have Hq3 := Lib.hid q3
        clear q3
        go_wp2_with fail
        refine (cc).mono ?_
        rintro e v1 ⟨rfl, b1⟩
        have f1 := bthen f0 b1
        have z1 := b1.size
        have HP_1 := Lib.hid (HP_0.out.below b1)
        have HQ_1 := Lib.hid (HQ_0.out.below b1)
        have Hc_1 := Lib.hid (Hc_0.out.below b1)
        clear lt_c r_c0 r_c1 r_c2 r_c3 r_c4 r_c5 r_c6
        clear HP_0 HQ_0 Hc_0
        have lt_c := Hc_1.out.lt
        have r_c0 : v1.cell? ⟨w.heap.size, 0, none⟩ = some (.int .i64 i0) := Hc_1.out.cell 0
        have r_c1 : v1.cell? ⟨w.heap.size, 1, none⟩ = some (.int .i64 t0) := Hc_1.out.cell 1
        have r_c2 : v1.cell? ⟨w.heap.size, 2, none⟩ = some (.slice A n c) := Hc_1.out.cell 2
        have r_c3 : v1.cell? ⟨w.heap.size, 3, none⟩ = some (.slice B m d) := Hc_1.out.cell 3
        have r_c4 : v1.cell? ⟨w.heap.size, 4, none⟩ = some (.int .i64 l0) := Hc_1.out.cell 4
        have r_c5 : v1.cell? ⟨w.heap.size, 5, none⟩ = some (.int .i64 l1) := Hc_1.out.cell 5
        have r_c6 : v1.cell? ⟨w.heap.size, 6, none⟩ = some (.int .i64 l2) := Hc_1.out.cell 6
        clear cc
        have cc := jobsOk_any B m d ql v1 HQ_1.out hR.out hm
        cases q4 : jobsB ql with
        | false =>
          rw [q4] at cc
          have Hq4 := Lib.hid q4
          clear q4
          go_wp2_with fail
          refine (cc).mono ?_
          rintro e v2 ⟨rfl, b2⟩
          have f2 := bthen f1 b2
          have z2 := b2.size
          have HP_2 := Lib.hid (HP_1.out.below b2)
          have HQ_2 := Lib.hid (HQ_1.out.below b2)
          have Hc_2 := Lib.hid (Hc_1.out.below b2)
          clear lt_c r_c0 r_c1 r_c2 r_c3 r_c4 r_c5 r_c6
          clear HP_1 HQ_1 Hc_1
          have lt_c := Hc_2.out.lt
          have r_c0 : v2.cell? ⟨w.heap.size, 0, none⟩ = some (.int .i64 i0) := Hc_2.out.cell 0
          have r_c1 : v2.cell? ⟨w.heap.size, 1, none⟩ = some (.int .i64 t0) := Hc_2.out.cell 1
          have r_c2 : v2.cell? ⟨w.heap.size, 2, none⟩ = some (.slice A n c) := Hc_2.out.cell 2
          have r_c3 : v2.cell? ⟨w.heap.size, 3, none⟩ = some (.slice B m d) := Hc_2.out.cell 3
          have r_c4 : v2.cell? ⟨w.heap.size, 4, none⟩ = some (.int .i64 l0) := Hc_2.out.cell 4
          have r_c5 : v2.cell? ⟨w.heap.size, 5, none⟩ = some (.int .i64 l1) := Hc_2.out.cell 5
          have r_c6 : v2.cell? ⟨w.heap.size, 6, none⟩ = some (.int .i64 l2) := Hc_2.out.cell 6
          have hv : stateB i0 t0 l0 l1 l2 pl ql = false := by unfold stateB; rw [Hq1.out, Hq2.out, Hq3.out, Hq4.out]; simp
          have HV := Lib.hid hv
          clear hv
          go_wp21
          go_ret
          exact ⟨ret_bool HV.out.symm, f2⟩
        | true =>
          rw [q4] at cc
          have Hq4 := Lib.hid q4
          clear q4
          go_wp2_with fail
          refine (cc).mono ?_
          rintro e v2 ⟨rfl, b2⟩
          have f2 := bthen f1 b2
          have z2 := b2.size
          have HP_2 := Lib.hid (HP_1.out.below b2)
          have HQ_2 := Lib.hid (HQ_1.out.below b2)
          have Hc_2 := Lib.hid (Hc_1.out.below b2)
          clear lt_c r_c0 r_c1 r_c2 r_c3 r_c4 r_c5 r_c6
          clear HP_1 HQ_1 Hc_1
          have lt_c := Hc_2.out.lt
          have r_c0 : v2.cell? ⟨w.heap.size, 0, none⟩ = some (.int .i64 i0) := Hc_2.out.cell 0
          have r_c1 : v2.cell? ⟨w.heap.size, 1, none⟩ = some (.int .i64 t0) := Hc_2.out.cell 1
          have r_c2 : v2.cell? ⟨w.heap.size, 2, none⟩ = some (.slice A n c) := Hc_2.out.cell 2
          have r_c3 : v2.cell? ⟨w.heap.size, 3, none⟩ = some (.slice B m d) := Hc_2.out.cell 3
          have r_c4 : v2.cell? ⟨w.heap.size, 4, none⟩ = some (.int .i64 l0) := Hc_2.out.cell 4
          have r_c5 : v2.cell? ⟨w.heap.size, 5, none⟩ = some (.int .i64 l1) := Hc_2.out.cell 5
          have r_c6 : v2.cell? ⟨w.heap.size, 6, none⟩ = some (.int .i64 l2) := Hc_2.out.cell 6
          clear cc
          have cc := leaseOk_any l0 l1 l2 v2
          cases q5 : leaseB l0 l1 l2 with
          | false =>
            rw [q5] at cc
            have Hq5 := Lib.hid q5
            clear q5
            go_wp2_with fail
            refine (cc).mono ?_
            rintro e v3 ⟨rfl, b3⟩
            have f3 := bthen f2 b3
            have z3 := b3.size
            have HP_3 := Lib.hid (HP_2.out.below b3)
            have HQ_3 := Lib.hid (HQ_2.out.below b3)
            have Hc_3 := Lib.hid (Hc_2.out.below b3)
            clear lt_c r_c0 r_c1 r_c2 r_c3 r_c4 r_c5 r_c6
            clear HP_2 HQ_2 Hc_2
            have lt_c := Hc_3.out.lt
            have r_c0 : v3.cell? ⟨w.heap.size, 0, none⟩ = some (.int .i64 i0) := Hc_3.out.cell 0
            have r_c1 : v3.cell? ⟨w.heap.size, 1, none⟩ = some (.int .i64 t0) := Hc_3.out.cell 1
            have r_c2 : v3.cell? ⟨w.heap.size, 2, none⟩ = some (.slice A n c) := Hc_3.out.cell 2
            have r_c3 : v3.cell? ⟨w.heap.size, 3, none⟩ = some (.slice B m d) := Hc_3.out.cell 3
            have r_c4 : v3.cell? ⟨w.heap.size, 4, none⟩ = some (.int .i64 l0) := Hc_3.out.cell 4
            have r_c5 : v3.cell? ⟨w.heap.size, 5, none⟩ = some (.int .i64 l1) := Hc_3.out.cell 5
            have r_c6 : v3.cell? ⟨w.heap.size, 6, none⟩ = some (.int .i64 l2) := Hc_3.out.cell 6
            have hv : stateB i0 t0 l0 l1 l2 pl ql = false := by unfold stateB; rw [Hq1.out, Hq2.out, Hq3.out, Hq4.out, Hq5.out]; simp
            have HV := Lib.hid hv
            clear hv
            go_wp21
            go_ret
            exact ⟨ret_bool HV.out.symm, f3⟩
          | true =>
            rw [q5] at cc
            have Hq5 := Lib.hid q5
            clear q5
            go_wp2_with fail
            refine (cc).mono ?_
            rintro e v3 ⟨rfl, b3⟩
            have f3 := bthen f2 b3
            have z3 := b3.size
            have HP_3 := Lib.hid (HP_2.out.below b3)
            have HQ_3 := Lib.hid (HQ_2.out.below b3)
            have Hc_3 := Lib.hid (Hc_2.out.below b3)
            clear lt_c r_c0 r_c1 r_c2 r_c3 r_c4 r_c5 r_c6
            clear HP_2 HQ_2 Hc_2
            have lt_c := Hc_3.out.lt
            have r_c0 : v3.cell? ⟨w.heap.size, 0, none⟩ = some (.int .i64 i0) := Hc_3.out.cell 0
            have r_c1 : v3.cell? ⟨w.heap.size, 1, none⟩ = some (.int .i64 t0) := Hc_3.out.cell 1
            have r_c2 : v3.cell? ⟨w.heap.size, 2, none⟩ = some (.slice A n c) := Hc_3.out.cell 2
            have r_c3 : v3.cell? ⟨w.heap.size, 3, none⟩ = some (.slice B m d) := Hc_3.out.cell 3
            have r_c4 : v3.cell? ⟨w.heap.size, 4, none⟩ = some (.int .i64 l0) := Hc_3.out.cell 4
            have r_c5 : v3.cell? ⟨w.heap.size, 5, none⟩ = some (.int .i64 l1) := Hc_3.out.cell 5
            have r_c6 : v3.cell? ⟨w.heap.size, 6, none⟩ = some (.int .i64 l2) := Hc_3.out.cell 6
            clear cc
            go_wp21
            clear lt_c r_c0 r_c1 r_c2 r_c3 r_c4 r_c5 r_c6
            unfold maxLen at hm
            go_loopw [36] (fun iv wr => ∃ j : Nat, j ≤ m ∧ iv = .int .i64 j ∧ Below w.heap.size w wr ∧ Hid (Blk wr w.heap.size 34 #[.int .i64 i0, .int .i64 t0, .slice A n c, .slice B m d, .int .i64 l0, .int .i64 l1, .int .i64 l2]) ∧ Hid (∀ i, i < j → decide ((ql.getD i default).f ≤ i0) = true)) (fun iv _ => m - (intOf iv).toNat)
            case atStart => exact ⟨0, Nat.zero_le _, rfl, f3, Hc_3, Lib.hid (fun j hj => absurd hj (by omega))⟩
            case round =>
              clear Hc_3 HP_3 HQ_3
              obtain ⟨j, hj, rfl, hbl, HKr, hall⟩ := hrel
              have lt_c := HKr.out.lt
              have r_c0 : wr.cell? ⟨w.heap.size, 0, none⟩ = some (.int .i64 i0) := HKr.out.cell 0
              have r_c1 : wr.cell? ⟨w.heap.size, 1, none⟩ = some (.int .i64 t0) := HKr.out.cell 1
              have r_c2 : wr.cell? ⟨w.heap.size, 2, none⟩ = some (.slice A n c) := HKr.out.cell 2
              have r_c3 : wr.cell? ⟨w.heap.size, 3, none⟩ = some (.slice B m d) := HKr.out.cell 3
              have r_c4 : wr.cell? ⟨w.heap.size, 4, none⟩ = some (.int .i64 l0) := HKr.out.cell 4
              have r_c5 : wr.cell? ⟨w.heap.size, 5, none⟩ = some (.int .i64 l1) := HKr.out.cell 5
              have r_c6 : wr.cell? ⟨w.heap.size, 6, none⟩ = some (.int .i64 l2) := HKr.out.cell 6
              by_cases hlt : j < m
              · have hlt' : (j : Int) < (m : Int) := by omega
                obtain ⟨bw, ow, rfl, hbw, hcw⟩ := sl_jobs HQ.out (by omega)
                obtain ⟨h0, h1, h2, h3, h4⟩ := hcw j hlt
                clear hcw
                rw [← hbl.cell (by exact hbw)] at h0 h1 h2 h3 h4
                have hd := fun (b : Bool) (h : decide ((ql.getD j default).f ≤ i0) = b) => h
                generalize hp : ql.getD j default = jb at h0 h1 h2 h3 h4
                obtain ⟨ji, jd, jk, jv, jf⟩ := jb
                simp only at h0 h1 h2 h3 h4
                have HPP := Lib.hid hp
                clear hp hd
                have hbrw : bw < wr.heap.size := Nat.lt_of_lt_of_le hbw hbl.size
                by_cases hf : jf ≤ i0
                · have hf' : ¬ i0 < jf := by omega
                  go_wp2
                  exact ⟨⟨j + 1, by omega, by go_num, by (repeat' (first | (with_reducible exact Below.refl _ _) | (with_reducible assumption) | (with_reducible refine Below.alloc ?_ ?_ _) | (with_reducible refine Below.drew ?_) | (with_reducible refine Below.setCell ?_ ?_ _) | (with_reducible refine bstep (by assumption) ?_ ?_) | (with_reducible exact Nat.le_refl _) | omega | (simp [*]; done) | (simp [*]; omega))), Lib.hid (HKr.out.alloc _), Lib.hid (upto_succ hall.out (by rw [HPP.out]; exact decide_eq_true hf))⟩, by simp [intOf]; omega⟩
                · have hf' : i0 < jf := by omega
                  have hv : stateB i0 t0 l0 l1 l2 pl ql = false := by
                    have : firedIn ql i0 = false := all_range_false (by rw [hR.out]; exact hlt) (by rw [HPP.out]; exact decide_eq_false hf)
                    unfold stateB; rw [Hq1.out, Hq2.out, Hq3.out, Hq4.out, Hq5.out, this]; rfl
                  have HV := Lib.hid hv
                  clear hv
                  go_wp2
                  go_ret
                  exact ⟨ret_bool HV.out.symm, by (repeat' (first | (with_reducible exact Below.refl _ _) | (with_reducible assumption) | (with_reducible refine Below.alloc ?_ ?_ _) | (with_reducible refine Below.drew ?_) | (with_reducible refine Below.setCell ?_ ?_ _) | (with_reducible refine bstep (by assumption) ?_ ?_) | (with_reducible exact Nat.le_refl _) | omega | (simp [*]; done) | (simp [*]; omega)))⟩
              · have hkn : m = j := by omega
                have hlt' : ¬ (j : Int) < (m : Int) := by omega
                have hv : stateB i0 t0 l0 l1 l2 pl ql = true := by
                  have : firedIn ql i0 = true := all_range_true (by rw [hR.out, hkn]; exact hall.out)
                  unfold stateB; rw [Hq1.out, Hq2.out, Hq3.out, Hq4.out, Hq5.out, this]; rfl
                have HV := Lib.hid hv
                clear hv hkn
                go_wp21
                go_ret
                exact ⟨ret_bool HV.out.symm, hbl⟩
set_option maxRecDepth 100000 in
set_option maxHeartbeats 4000000 in
theorem specStateOk_any (A : Option Addr) (n c : Nat) (B : Option Addr) (m d : Nat) (i0 t0 l0 l1 l2 : Int) (pl : List Pr) (ql : List Jb) (w : World) (hP : Sl w 2 A n (PR pl)) (hQ : Sl w 5 B m (JB ql)) (hl : pl.length = n) (hr : ql.length = m) (hn : n ≤ maxLen) (hm : m ≤ maxLen) :
    Calls Try.prog 11 #[.agg #[.int .i64 i0, .int .i64 t0, .slice A n c, .slice B m d, .int .i64 l0, .int .i64 l1, .int .i64 l2]] w fun e' w' => e' = .returned (.bool (stateB i0 t0 l0 l1 l2 pl ql)) ∧ Below w.heap.size w w' := by
  have hL := Lib.hid hl
  have hR := Lib.hid hr
  have HP := Lib.hid hP
  have HQ := Lib.hid hQ
  clear hP hQ hl hr
  go_enter Try.func11, Try.ntmps11
  go_wp2_with fail
  refine calls_named ?_
  rintro v0 hv0
  have f0 : Below w.heap.size w v0 := by rw [hv0]; (repeat' (first | (with_reducible exact Below.refl _ _) | (with_reducible assumption) | (with_reducible refine Below.alloc ?_ ?_ _) | (with_reducible refine Below.drew ?_) | (with_reducible refine Below.setCell ?_ ?_ _) | (with_reducible refine bstep (by assumption) ?_ ?_) | (with_reducible exact Nat.le_refl _) | omega | (simp [*]; done) | (simp [*]; omega)))
  have z0 : w.heap.size + 1 ≤ v0.heap.size := by rw [hv0]; simp [size_set]
  have HP_0 := Lib.hid (HP.out.below f0)
  have HP_lt := Lib.hid (fun hn => HP.out.lt hn)
  have HQ_0 := Lib.hid (HQ.out.below f0)
  have HQ_lt := Lib.hid (fun hn => HQ.out.lt hn)
  have Hc_0 : Hid (Blk v0 w.heap.size 34 #[.int .i64 i0, .int .i64 t0, .slice A n c, .slice B m d, .int .i64 l0, .int .i64 l1, .int .i64 l2]) := by rw [hv0]; exact Blk.new_at _ _ _ _ (by simp)
  clear hv0
  have lt_c := Hc_0.out.lt
  have r_c0 : v0.cell? ⟨w.heap.size, 0, none⟩ = some (.int .i64 i0) := Hc_0.out.cell 0
  have r_c1 : v0.cell? ⟨w.heap.size, 1, none⟩ = some (.int .i64 t0) := Hc_0.out.cell 1
  have r_c2 : v0.cell? ⟨w.heap.size, 2, none⟩ = some (.slice A n c) := Hc_0.out.cell 2
  have r_c3 : v0.cell? ⟨w.heap.size, 3, none⟩ = some (.slice B m d) := Hc_0.out.cell 3
  have r_c4 : v0.cell? ⟨w.heap.size, 4, none⟩ = some (.int .i64 l0) := Hc_0.out.cell 4
  have r_c5 : v0.cell? ⟨w.heap.size, 5, none⟩ = some (.int .i64 l1) := Hc_0.out.cell 5
  have r_c6 : v0.cell? ⟨w.heap.size, 6, none⟩ = some (.int .i64 l2) := Hc_0.out.cell 6
  have cc := l1In_any i0 0 2000 v0
  cases q1 : inB i0 0 2000 with
  | false =>
    rw [q1] at cc
    have Hq1 := Lib.hid q1
    clear q1
    refine (cc).mono ?_
    rintro e v' ⟨rfl, rfl⟩
    have hv : stateB i0 t0 l0 l1 l2 pl ql = false := by unfold stateB; rw [Hq1.out]; simp
    have HV := Lib.hid hv
    clear hv
    go_wp21
    go_ret
    exact ⟨ret_bool HV.out.symm, f0⟩
  | true =>
    rw [q1] at cc
    have Hq1 := Lib.hid q1
    clear q1
    refine (cc).mono ?_
    rintro e v' ⟨rfl, rfl⟩
    clear cc
    have cc := l16Time_any t0 v0
    cases q2 : inB t0 0 1000000 with
    | false =>
      rw [q2] at cc
      have Hq2 := Lib.hid q2
      clear q2
      go_wp2_with fail
      refine (cc).mono ?_
      rintro e v' ⟨rfl, rfl⟩
      have hv : stateB i0 t0 l0 l1 l2 pl ql = false := by unfold stateB; rw [Hq1.out, Hq2.out]; simp
      have HV := Lib.hid hv
      clear hv
      go_wp21
      go_ret
      exact ⟨ret_bool HV.out.symm, f0⟩
    | true =>
      rw [q2] at cc
      have Hq2 := Lib.hid q2
      clear q2
      go_wp2_with fail
      refine (cc).mono ?_
      rintro e v' ⟨rfl, rfl⟩
      clear cc
      have cc := specPairsOk_any A n c pl v0 HP_0.out hL.out hn
      cases q3 : pairsB pl with
      | false =>
        rw [q3] at cc
        have Hq3 := Lib.hid q3
        clear q3
        go_wp2_with fail
        refine (cc).mono ?_
        rintro e v1 ⟨rfl, b1⟩
        have f1 := bthen f0 b1
        have z1 := b1.size
        have HP_1 := Lib.hid (HP_0.out.below b1)
        have HQ_1 := Lib.hid (HQ_0.out.below b1)
        have Hc_1 := Lib.hid (Hc_0.out.below b1)
        clear lt_c r_c0 r_c1 r_c2 r_c3 r_c4 r_c5 r_c6
        clear HP_0 HQ_0 Hc_0
        have lt_c := Hc_1.out.lt
        have r_c0 : v1.cell? ⟨w.heap.size, 0, none⟩ = some (.int .i64 i0) := Hc_1.out.cell 0
        have r_c1 : v1.cell? ⟨w.heap.size, 1, none⟩ = some (.int .i64 t0) := Hc_1.out.cell 1
        have r_c2 : v1.cell? ⟨w.heap.size, 2, none⟩ = some (.slice A n c) := Hc_1.out.cell 2
        have r_c3 : v1.cell? ⟨w.heap.size, 3, none⟩ = some (.slice B m d) := Hc_1.out.cell 3
        have r_c4 : v1.cell? ⟨w.heap.size, 4, none⟩ = some (.int .i64 l0) := Hc_1.out.cell 4
        have r_c5 : v1.cell? ⟨w.heap.size, 5, none⟩ = some (.int .i64 l1) := Hc_1.out.cell 5
        have r_c6 : v1.cell? ⟨w.heap.size, 6, none⟩ = some (.int .i64 l2) := Hc_1.out.cell 6
        have hv : stateB i0 t0 l0 l1 l2 pl ql = false := by unfold stateB; rw [Hq1.out, Hq2.out, Hq3.out]; simp
        have HV := Lib.hid hv
        clear hv
        go_wp21
        go_ret
        exact ⟨ret_bool HV.out.symm, f1⟩
      | true =>
        rw [q3] at cc
        have Hq3 := Lib.hid q3
        clear q3
        go_wp2_with fail
        refine (cc).mono ?_
        rintro e v1 ⟨rfl, b1⟩
        have f1 := bthen f0 b1
        have z1 := b1.size
        have HP_1 := Lib.hid (HP_0.out.below b1)
        have HQ_1 := Lib.hid (HQ_0.out.below b1)
        have Hc_1 := Lib.hid (Hc_0.out.below b1)
        clear lt_c r_c0 r_c1 r_c2 r_c3 r_c4 r_c5 r_c6
        clear HP_0 HQ_0 Hc_0
        have lt_c := Hc_1.out.lt
        have r_c0 : v1.cell? ⟨w.heap.size, 0, none⟩ = some (.int .i64 i0) := Hc_1.out.cell 0
        have r_c1 : v1.cell? ⟨w.heap.size, 1, none⟩ = some (.int .i64 t0) := Hc_1.out.cell 1
        have r_c2 : v1.cell? ⟨w.heap.size, 2, none⟩ = some (.slice A n c) := Hc_1.out.cell 2
        have r_c3 : v1.cell? ⟨w.heap.size, 3, none⟩ = some (.slice B m d) := Hc_1.out.cell 3
        have r_c4 : v1.cell? ⟨w.heap.size, 4, none⟩ = some (.int .i64 l0) := Hc_1.out.cell 4
        have r_c5 : v1.cell? ⟨w.heap.size, 5, none⟩ = some (.int .i64 l1) := Hc_1.out.cell 5
        have r_c6 : v1.cell? ⟨w.heap.size, 6, none⟩ = some (.int .i64 l2) := Hc_1.out.cell 6
        clear cc
        have cc := specJobsOk_any B m d ql v1 HQ_1.out hR.out hm
        cases q4 : jobsB ql with
        | false =>
          rw [q4] at cc
          have Hq4 := Lib.hid q4
          clear q4
          go_wp2_with fail
          refine (cc).mono ?_
          rintro e v2 ⟨rfl, b2⟩
          have f2 := bthen f1 b2
          have z2 := b2.size
          have HP_2 := Lib.hid (HP_1.out.below b2)
          have HQ_2 := Lib.hid (HQ_1.out.below b2)
          have Hc_2 := Lib.hid (Hc_1.out.below b2)
          clear lt_c r_c0 r_c1 r_c2 r_c3 r_c4 r_c5 r_c6
          clear HP_1 HQ_1 Hc_1
          have lt_c := Hc_2.out.lt
          have r_c0 : v2.cell? ⟨w.heap.size, 0, none⟩ = some (.int .i64 i0) := Hc_2.out.cell 0
          have r_c1 : v2.cell? ⟨w.heap.size, 1, none⟩ = some (.int .i64 t0) := Hc_2.out.cell 1
          have r_c2 : v2.cell? ⟨w.heap.size, 2, none⟩ = some (.slice A n c) := Hc_2.out.cell 2
          have r_c3 : v2.cell? ⟨w.heap.size, 3, none⟩ = some (.slice B m d) := Hc_2.out.cell 3
          have r_c4 : v2.cell? ⟨w.heap.size, 4, none⟩ = some (.int .i64 l0) := Hc_2.out.cell 4
          have r_c5 : v2.cell? ⟨w.heap.size, 5, none⟩ = some (.int .i64 l1) := Hc_2.out.cell 5
          have r_c6 : v2.cell? ⟨w.heap.size, 6, none⟩ = some (.int .i64 l2) := Hc_2.out.cell 6
          have hv : stateB i0 t0 l0 l1 l2 pl ql = false := by unfold stateB; rw [Hq1.out, Hq2.out, Hq3.out, Hq4.out]; simp
          have HV := Lib.hid hv
          clear hv
          go_wp21
          go_ret
          exact ⟨ret_bool HV.out.symm, f2⟩
        | true =>
          rw [q4] at cc
          have Hq4 := Lib.hid q4
          clear q4
          go_wp2_with fail
          refine (cc).mono ?_
          rintro e v2 ⟨rfl, b2⟩
          have f2 := bthen f1 b2
          have z2 := b2.size
          have HP_2 := Lib.hid (HP_1.out.below b2)
          have HQ_2 := Lib.hid (HQ_1.out.below b2)
          have Hc_2 := Lib.hid (Hc_1.out.below b2)
          clear lt_c r_c0 r_c1 r_c2 r_c3 r_c4 r_c5 r_c6
          clear HP_1 HQ_1 Hc_1
          have lt_c := Hc_2.out.lt
          have r_c0 : v2.cell? ⟨w.heap.size, 0, none⟩ = some (.int .i64 i0) := Hc_2.out.cell 0
          have r_c1 : v2.cell? ⟨w.heap.size, 1, none⟩ = some (.int .i64 t0) := Hc_2.out.cell 1
          have r_c2 : v2.cell? ⟨w.heap.size, 2, none⟩ = some (.slice A n c) := Hc_2.out.cell 2
          have r_c3 : v2.cell? ⟨w.heap.size, 3, none⟩ = some (.slice B m d) := Hc_2.out.cell 3
          have r_c4 : v2.cell? ⟨w.heap.size, 4, none⟩ = some (.int .i64 l0) := Hc_2.out.cell 4
          have r_c5 : v2.cell? ⟨w.heap.size, 5, none⟩ = some (.int .i64 l1) := Hc_2.out.cell 5
          have r_c6 : v2.cell? ⟨w.heap.size, 6, none⟩ = some (.int .i64 l2) := Hc_2.out.cell 6
          clear cc
          have cc := specLeaseOk_any l0 l1 l2 v2
          cases q5 : leaseB l0 l1 l2 with
          | false =>
            rw [q5] at cc
            have Hq5 := Lib.hid q5
            clear q5
            go_wp2_with fail
            refine (cc).mono ?_
            rintro e v3 ⟨rfl, b3⟩
            have f3 := bthen f2 b3
            have z3 := b3.size
            have HP_3 := Lib.hid (HP_2.out.below b3)
            have HQ_3 := Lib.hid (HQ_2.out.below b3)
            have Hc_3 := Lib.hid (Hc_2.out.below b3)
            clear lt_c r_c0 r_c1 r_c2 r_c3 r_c4 r_c5 r_c6
            clear HP_2 HQ_2 Hc_2
            have lt_c := Hc_3.out.lt
            have r_c0 : v3.cell? ⟨w.heap.size, 0, none⟩ = some (.int .i64 i0) := Hc_3.out.cell 0
            have r_c1 : v3.cell? ⟨w.heap.size, 1, none⟩ = some (.int .i64 t0) := Hc_3.out.cell 1
            have r_c2 : v3.cell? ⟨w.heap.size, 2, none⟩ = some (.slice A n c) := Hc_3.out.cell 2
            have r_c3 : v3.cell? ⟨w.heap.size, 3, none⟩ = some (.slice B m d) := Hc_3.out.cell 3
            have r_c4 : v3.cell? ⟨w.heap.size, 4, none⟩ = some (.int .i64 l0) := Hc_3.out.cell 4
            have r_c5 : v3.cell? ⟨w.heap.size, 5, none⟩ = some (.int .i64 l1) := Hc_3.out.cell 5
            have r_c6 : v3.cell? ⟨w.heap.size, 6, none⟩ = some (.int .i64 l2) := Hc_3.out.cell 6
            have hv : stateB i0 t0 l0 l1 l2 pl ql = false := by unfold stateB; rw [Hq1.out, Hq2.out, Hq3.out, Hq4.out, Hq5.out]; simp
            have HV := Lib.hid hv
            clear hv
            go_wp21
            go_ret
            exact ⟨ret_bool HV.out.symm, f3⟩
          | true =>
            rw [q5] at cc
            have Hq5 := Lib.hid q5
            clear q5
            go_wp2_with fail
            refine (cc).mono ?_
            rintro e v3 ⟨rfl, b3⟩
            have f3 := bthen f2 b3
            have z3 := b3.size
            have HP_3 := Lib.hid (HP_2.out.below b3)
            have HQ_3 := Lib.hid (HQ_2.out.below b3)
            have Hc_3 := Lib.hid (Hc_2.out.below b3)
            clear lt_c r_c0 r_c1 r_c2 r_c3 r_c4 r_c5 r_c6
            clear HP_2 HQ_2 Hc_2
            have lt_c := Hc_3.out.lt
            have r_c0 : v3.cell? ⟨w.heap.size, 0, none⟩ = some (.int .i64 i0) := Hc_3.out.cell 0
            have r_c1 : v3.cell? ⟨w.heap.size, 1, none⟩ = some (.int .i64 t0) := Hc_3.out.cell 1
            have r_c2 : v3.cell? ⟨w.heap.size, 2, none⟩ = some (.slice A n c) := Hc_3.out.cell 2
            have r_c3 : v3.cell? ⟨w.heap.size, 3, none⟩ = some (.slice B m d) := Hc_3.out.cell 3
            have r_c4 : v3.cell? ⟨w.heap.size, 4, none⟩ = some (.int .i64 l0) := Hc_3.out.cell 4
            have r_c5 : v3.cell? ⟨w.heap.size, 5, none⟩ = some (.int .i64 l1) := Hc_3.out.cell 5
            have r_c6 : v3.cell? ⟨w.heap.size, 6, none⟩ = some (.int .i64 l2) := Hc_3.out.cell 6
            clear cc
            go_wp21
            clear lt_c r_c0 r_c1 r_c2 r_c3 r_c4 r_c5 r_c6
            unfold maxLen at hm
            go_loopw [3] (fun iv wr => ∃ j : Nat, j ≤ m ∧ iv = .int .i64 j ∧ Below w.heap.size w wr ∧ Hid (Blk wr w.heap.size 34 #[.int .i64 i0, .int .i64 t0, .slice A n c, .slice B m d, .int .i64 l0, .int .i64 l1, .int .i64 l2]) ∧ Hid (∀ i, i < j → decide ((ql.getD i default).f ≤ i0) = true)) (fun iv _ => m - (intOf iv).toNat)
            case atStart => exact ⟨0, Nat.zero_le _, rfl, f3, Hc_3, Lib.hid (fun j hj => absurd hj (by omega))⟩
            case round =>
              clear Hc_3 HP_3 HQ_3
              obtain ⟨j, hj, rfl, hbl, HKr, hall⟩ := hrel
              have lt_c := HKr.out.lt
              have r_c0 : wr.cell? ⟨w.heap.size, 0, none⟩ = some (.int .i64 i0) := HKr.out.cell 0
              have r_c1 : wr.cell? ⟨w.heap.size, 1, none⟩ = some (.int .i64 t0) := HKr.out.cell 1
              have r_c2 : wr.cell? ⟨w.heap.size, 2, none⟩ = some (.slice A n c) := HKr.out.cell 2
              have r_c3 : wr.cell? ⟨w.heap.size, 3, none⟩ = some (.slice B m d) := HKr.out.cell 3
              have r_c4 : wr.cell? ⟨w.heap.size, 4, none⟩ = some (.int .i64 l0) := HKr.out.cell 4
              have r_c5 : wr.cell? ⟨w.heap.size, 5, none⟩ = some (.int .i64 l1) := HKr.out.cell 5
              have r_c6 : wr.cell? ⟨w.heap.size, 6, none⟩ = some (.int .i64 l2) := HKr.out.cell 6
              by_cases hlt : j < m
              · have hlt' : (j : Int) < (m : Int) := by omega
                obtain ⟨bw, ow, rfl, hbw, hcw⟩ := sl_jobs HQ.out (by omega)
                obtain ⟨h0, h1, h2, h3, h4⟩ := hcw j hlt
                clear hcw
                rw [← hbl.cell (by exact hbw)] at h0 h1 h2 h3 h4
                have hd := fun (b : Bool) (h : decide ((ql.getD j default).f ≤ i0) = b) => h
                generalize hp : ql.getD j default = jb at h0 h1 h2 h3 h4
                obtain ⟨ji, jd, jk, jv, jf⟩ := jb
                simp only at h0 h1 h2 h3 h4
                have HPP := Lib.hid hp
                clear hp hd
                have hbrw : bw < wr.heap.size := Nat.lt_of_lt_of_le hbw hbl.size
                by_cases hf : jf ≤ i0
                · have hf' : ¬ i0 < jf := by omega
                  go_wp2
                  ((refine wp_region_ext (by kernel_rfl) (by kernel_rfl) ?_); (repeat (any_goals (first | go_big_quiet_step (fail) | (refine wpQuiet_step (fun K hK => ?_); go_simp; split <;> (refine hK _ ?_; clear hK K)) | quiet_step (fail)))); (all_goals (refine wpQuiet_nil ?_; rintro _ ⟨z, rfl⟩; have hb' := z.h; generalize z.w = w1 at hb' ⊢; clear z; (first | (have hb2 := bstep hb' hb hb.size; clear hb' hcb hfb hz1 hz2 hz3 hz4 hb; have hb := hb2; clear hb2) | (have hb := hb'; clear hb')); obtain ⟨hcb, hfb, hz1, hz2, hz3, hz4⟩ := bcell hb; (try simp only [World.size_alloc, World.size_setCell, World.size_drew, Nat.lt_add_one_iff, Nat.add_assoc, Nat.reduceAdd] at hz1 hz2 hz3 hz4))))
                  go_wp2
                  exact ⟨⟨j + 1, by omega, by go_num, bstep hb hbl hbl.size, Lib.hid (HKr.out.below hb), Lib.hid (upto_succ hall.out (by rw [HPP.out]; exact decide_eq_true hf))⟩, by simp [intOf]; omega⟩
                · have hf' : i0 < jf := by omega
                  have hv : stateB i0 t0 l0 l1 l2 pl ql = false := by
                    have : firedIn ql i0 = false := all_range_false (by rw [hR.out]; exact hlt) (by rw [HPP.out]; exact decide_eq_false hf)
                    unfold stateB; rw [Hq1.out, Hq2.out, Hq3.out, Hq4.out, Hq5.out, this]; rfl
                  have HV := Lib.hid hv
                  clear hv
                  go_wp2
                  ((refine wp_region_ext (by kernel_rfl) (by kernel_rfl) ?_); (repeat (any_goals (first | go_big_quiet_step (fail) | (refine wpQuiet_step (fun K hK => ?_); go_simp; split <;> (refine hK _ ?_; clear hK K)) | quiet_step (fail)))); (all_goals (refine wpQuiet_nil ?_; rintro _ ⟨z, rfl⟩; have hb' := z.h; generalize z.w = w1 at hb' ⊢; clear z; (first | (have hb2 := bstep hb' hb hb.size; clear hb' hcb hfb hz1 hz2 hz3 hz4 hb; have hb := hb2; clear hb2) | (have hb := hb'; clear hb')); obtain ⟨hcb, hfb, hz1, hz2, hz3, hz4⟩ := bcell hb; (try simp only [World.size_alloc, World.size_setCell, World.size_drew, Nat.lt_add_one_iff, Nat.add_assoc, Nat.reduceAdd] at hz1 hz2 hz3 hz4))))
                  go_wp2
                  go_ret
                  exact ⟨ret_bool HV.out.symm, bstep hb hbl hbl.size⟩
              · have hkn : m = j := by omega
                have hlt' : ¬ (j : Int) < (m : Int) := by omega
                have hv : stateB i0 t0 l0 l1 l2 pl ql = true := by
                  have : firedIn ql i0 = true := all_range_true (by rw [hR.out, hkn]; exact hall.out)
                  unfold stateB; rw [Hq1.out, Hq2.out, Hq3.out, Hq4.out, Hq5.out, this]; rfl
                have HV := Lib.hid hv
                clear hv hkn
                go_wp21
                go_ret
                exact ⟨ret_bool HV.out.symm, hbl⟩
end Go.Proofs.Ytodkcanhlpgpgaa

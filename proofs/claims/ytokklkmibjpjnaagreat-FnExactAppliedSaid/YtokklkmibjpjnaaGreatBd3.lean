/- Part 3 of what the claim rests on: S1, C1, S3, S4, P12, InsJ, J10. No condition of its own. -/
import Derived.Test.YtokklkmibjpjnaaGreatBd2
import Derived.Deep.RegionLaw
import Derived.Lib.Overlaps
import Derived.Lib.AppendZeros
import Derived.Laws.Externs
import Derived.Laws.NewBlocks
import Derived.Outline
namespace Go.Proofs.YtokklkmibjpjnaaGreat
set_option linter.unusedSimpArgs false
set_option linter.unusedVariables false
attribute [local go_sem] n_lt2 n_lt3 n_lt4 n_le2 n_le3
open Go.RowKit
def firedIn (ql : List Jb) (i0 : Int) : Bool := (List.range ql.length).all fun i => decide ((ql.getD i default).f ≤ i0)
def stateB (i0 t0 l0 l1 l2 : Int) (pl : List Pr) (ql : List Jb) : Bool := inB i0 0 2000 && (inB t0 0 1000000 && (pairsB pl && (jobsB ql && (leaseB l0 l1 l2 && firedIn ql i0))))
attribute [local go_sem] Ext.cell Ext.frozen
set_option maxRecDepth 100000 in
set_option maxHeartbeats 4000000 in
theorem stateOk_any (A : Option Addr) (n c : Nat) (B : Option Addr) (m d : Nat) (i0 t0 l0 l1 l2 : Int) (pl : List Pr) (ql : List Jb) (w : World) (hP : Sl w 2 A n (PR pl)) (hQ : Sl w 5 B m (JB ql)) (hl : pl.length = n) (hr : ql.length = m) (hn : n ≤ maxLen) (hm : m ≤ maxLen) :
    Calls Tryz.prog 40 #[.agg #[.int .i64 i0, .int .i64 t0, .slice A n c, .slice B m d, .int .i64 l0, .int .i64 l1, .int .i64 l2]] w fun e' w' => e' = .returned (.bool (stateB i0 t0 l0 l1 l2 pl ql)) ∧ Below w.heap.size w w' := by
  have hL := Lib.hid hl
  have hR := Lib.hid hr
  have HP := Lib.hid hP
  have HQ := Lib.hid hQ
  clear hP hQ hl hr
  go_enter Tryz.func40, Tryz.ntmps40
  go_wp2_with fail
  refine calls_named ?_
  rintro v0 hv0
  have f0 : Below w.heap.size w v0 := by rw [hv0]; (repeat' (first | (with_reducible exact Below.refl _ _) | (with_reducible assumption) | (with_reducible refine Below.alloc ?_ ?_ _) | (with_reducible refine Below.drew ?_) | (with_reducible refine Below.setCell ?_ ?_ _) | (with_reducible refine bstep (by assumption) ?_ ?_) | (with_reducible exact Nat.le_refl _) | omega | (simp [*]; done) | (simp [*]; omega)))
  have z0 : w.heap.size + 1 ≤ v0.heap.size := by rw [hv0]; simp [size_set]
  have HP_0 := Lib.hid (HP.out.below f0)
  have HP_lt := Lib.hid (fun hn => HP.out.lt hn)
  have HQ_0 := Lib.hid (HQ.out.below f0)
  have HQ_lt := Lib.hid (fun hn => HQ.out.lt hn)
  have Hc_0 : Hid (Blk v0 w.heap.size 37 #[.int .i64 i0, .int .i64 t0, .slice A n c, .slice B m d, .int .i64 l0, .int .i64 l1, .int .i64 l2]) := by rw [hv0]; exact Blk.new_at _ _ _ _ (by simp)
  clear hv0
  have lt_c := Hc_0.out.lt
  have r_c0 : v0.cell? ⟨w.heap.size, 0, none⟩ = some (.int .i64 i0) := Hc_0.out.cell 0
  have r_c1 : v0.cell? ⟨w.heap.size, 1, none⟩ = some (.int .i64 t0) := Hc_0.out.cell 1
  have r_c2 : v0.cell? ⟨w.heap.size, 2, none⟩ = some (.slice A n c) := Hc_0.out.cell 2
  have r_c3 : v0.cell? ⟨w.heap.size, 3, none⟩ = some (.slice B m d) := Hc_0.out.cell 3
  have r_c4 : v0.cell? ⟨w.heap.size, 4, none⟩ = some (.int .i64 l0) := Hc_0.out.cell 4
  have r_c5 : v0.cell? ⟨w.heap.size, 5, none⟩ = some (.int .i64 l1) := Hc_0.out.cell 5
  have r_c6 : v0.cell? ⟨w.heap.size, 6, none⟩ = some (.int .i64 l2) := Hc_0.out.cell 6
  have cc := between_any i0 0 2000 v0
  cases q1 : inB i0 0 2000 with
  | false =>
    rw [q1] at cc
    have Hq1 := Lib.hid q1
    clear q1
    refine (cc).mono ?_
    rintro e v' ⟨rfl, rfl⟩
    have hv : stateB i0 t0 l0 l1 l2 pl ql = false := by unfold stateB; rw [Hq1.out]; simp
    have HV := Lib.hid hv
    clear hv
    go_wp21
    go_ret
    exact ⟨ret_bool HV.out.symm, f0⟩
  | true =>
    rw [q1] at cc
    have Hq1 := Lib.hid q1
    clear q1
    refine (cc).mono ?_
    rintro e v' ⟨rfl, rfl⟩
    clear cc
    have cc := timeOk_any t0 v0
    cases q2 : inB t0 0 1000000 with
    | false =>
      rw [q2] at cc
      have Hq2 := Lib.hid q2
      clear q2
      go_wp2_with fail
      refine (cc).mono ?_
      rintro e v' ⟨rfl, rfl⟩
      have hv : stateB i0 t0 l0 l1 l2 pl ql = false := by unfold stateB; rw [Hq1.out, Hq2.out]; simp
      have HV := Lib.hid hv
      clear hv
      go_wp21
      go_ret
      exact ⟨ret_bool HV.out.symm, f0⟩
    | true =>
      rw [q2] at cc
      have Hq2 := Lib.hid q2
      clear q2
      go_wp2_with fail
      refine (cc).mono ?_
      rintro e v' ⟨rfl, rfl⟩
      clear cc
      have cc := pairsOk_any A n c pl v0 HP_0.out hL.out hn
      cases q3 : pairsB pl with
      | false =>
        rw [q3] at cc
        have Hq3 := Lib.hid q3
        clear q3
        go_wp2_with fail
        refine (cc).mono ?_
        rintro e v1 ⟨rfl, b1⟩
        have f1 := bthen f0 b1
        have z1 := b1.size
        have HP_1 := Lib.hid (HP_0.out.below b1)
        have HQ_1 := Lib.hid (HQ_0.out.below b1)
        have Hc_1 := Lib.hid (Hc_0.out.below b1)
        clear lt_c r_c0 r_c1 r_c2 r_c3 r_c4 r_c5 r_c6
        clear HP_0 HQ_0 Hc_0
        have lt_c := Hc_1.out.lt
        have r_c0 : v1.cell? ⟨w.heap.size, 0, none⟩ = some (.int .i64 i0) := Hc_1.out.cell 0
        have r_c1 : v1.cell? ⟨w.heap.size, 1, none⟩ = some (.int .i64 t0) := Hc_1.out.cell 1
        have r_c2 : v1.cell? ⟨w.heap.size, 2, none⟩ = some (.slice A n c) := Hc_1.out.cell 2
        have r_c3 : v1.cell? ⟨w.heap.size, 3, none⟩ = some (.slice B m d) := Hc_1.out.cell 3
        have r_c4 : v1.cell? ⟨w.heap.size, 4, none⟩ = some (.int .i64 l0) := Hc_1.out.cell 4
        have r_c5 : v1.cell? ⟨w.heap.size, 5, none⟩ = some (.int .i64 l1) := Hc_1.out.cell 5
        have r_c6 : v1.cell? ⟨w.heap.size, 6, none⟩ = some (.int .i64 l2) := Hc_1.out.cell 6
        have hv : stateB i0 t0 l0 l1 l2 pl ql = false := by unfold stateB; rw [Hq1.out, Hq2.out, Hq3.out]; simp
        have HV := Lib.hid hv
        clear hv
        go_wp21
        go_ret
        exact ⟨ret_bool HV.out.symm, f1⟩
      | true =>
        rw [q3] at cc
        have Hq3 := Lib.hid q3
        clear q3
        go_wp2_with fail
        refine (cc).mono ?_
        rintro e v1 ⟨rfl, b1⟩
        have f1 := bthen f0 b1
        have z1 := b1.size
        have HP_1 := Lib.hid (HP_0.out.below b1)
        have HQ_1 := Lib.hid (HQ_0.out.below b1)
        have Hc_1 := Lib.hid (Hc_0.out.below b1)
        clear lt_c r_c0 r_c1 r_c2 r_c3 r_c4 r_c5 r_c6
        clear HP_0 HQ_0 Hc_0
        have lt_c := Hc_1.out.lt
        have r_c0 : v1.cell? ⟨w.heap.size, 0, none⟩ = some (.int .i64 i0) := Hc_1.out.cell 0
        have r_c1 : v1.cell? ⟨w.heap.size, 1, none⟩ = some (.int .i64 t0) := Hc_1.out.cell 1
        have r_c2 : v1.cell? ⟨w.heap.size, 2, none⟩ = some (.slice A n c) := Hc_1.out.cell 2
        have r_c3 : v1.cell? ⟨w.heap.size, 3, none⟩ = some (.slice B m d) := Hc_1.out.cell 3
        have r_c4 : v1.cell? ⟨w.heap.size, 4, none⟩ = some (.int .i64 l0) := Hc_1.out.cell 4
        have r_c5 : v1.cell? ⟨w.heap.size, 5, none⟩ = some (.int .i64 l1) := Hc_1.out.cell 5
        have r_c6 : v1.cell? ⟨w.heap.size, 6, none⟩ = some (.int .i64 l2) := Hc_1.out.cell 6
        clear cc
        have cc := jobsOk_any B m d ql v1 HQ_1.out hR.out hm
        cases q4 : jobsB ql with
        | false =>
          rw [q4] at cc
          have Hq4 := Lib.hid q4
          clear q4
          go_wp2_with fail
          refine (cc).mono ?_
          rintro e v2 ⟨rfl, b2⟩
          have f2 := bthen f1 b2
          have z2 := b2.size
          have HP_2 := Lib.hid (HP_1.out.below b2)
          have HQ_2 := Lib.hid (HQ_1.out.below b2)
          have Hc_2 := Lib.hid (Hc_1.out.below b2)
          clear lt_c r_c0 r_c1 r_c2 r_c3 r_c4 r_c5 r_c6
          clear HP_1 HQ_1 Hc_1
          have lt_c := Hc_2.out.lt
          have r_c0 : v2.cell? ⟨w.heap.size, 0, none⟩ = some (.int .i64 i0) := Hc_2.out.cell 0
          have r_c1 : v2.cell? ⟨w.heap.size, 1, none⟩ = some (.int .i64 t0) := Hc_2.out.cell 1
          have r_c2 : v2.cell? ⟨w.heap.size, 2, none⟩ = some (.slice A n c) := Hc_2.out.cell 2
          have r_c3 : v2.cell? ⟨w.heap.size, 3, none⟩ = some (.slice B m d) := Hc_2.out.cell 3
          have r_c4 : v2.cell? ⟨w.heap.size, 4, none⟩ = some (.int .i64 l0) := Hc_2.out.cell 4
          have r_c5 : v2.cell? ⟨w.heap.size, 5, none⟩ = some (.int .i64 l1) := Hc_2.out.cell 5
          have r_c6 : v2.cell? ⟨w.heap.size, 6, none⟩ = some (.int .i64 l2) := Hc_2.out.cell 6
          have hv : stateB i0 t0 l0 l1 l2 pl ql = false := by unfold stateB; rw [Hq1.out, Hq2.out, Hq3.out, Hq4.out]; simp
          have HV := Lib.hid hv
          clear hv
          go_wp21
          go_ret
          exact ⟨ret_bool HV.out.symm, f2⟩
        | true =>
          rw [q4] at cc
          have Hq4 := Lib.hid q4
          clear q4
          go_wp2_with fail
          refine (cc).mono ?_
          rintro e v2 ⟨rfl, b2⟩
          have f2 := bthen f1 b2
          have z2 := b2.size
          have HP_2 := Lib.hid (HP_1.out.below b2)
          have HQ_2 := Lib.hid (HQ_1.out.below b2)
          have Hc_2 := Lib.hid (Hc_1.out.below b2)
          clear lt_c r_c0 r_c1 r_c2 r_c3 r_c4 r_c5 r_c6
          clear HP_1 HQ_1 Hc_1
          have lt_c := Hc_2.out.lt
          have r_c0 : v2.cell? ⟨w.heap.size, 0, none⟩ = some (.int .i64 i0) := Hc_2.out.cell 0
          have r_c1 : v2.cell? ⟨w.heap.size, 1, none⟩ = some (.int .i64 t0) := Hc_2.out.cell 1
          have r_c2 : v2.cell? ⟨w.heap.size, 2, none⟩ = some (.slice A n c) := Hc_2.out.cell 2
          have r_c3 : v2.cell? ⟨w.heap.size, 3, none⟩ = some (.slice B m d) := Hc_2.out.cell 3
          have r_c4 : v2.cell? ⟨w.heap.size, 4, none⟩ = some (.int .i64 l0) := Hc_2.out.cell 4
          have r_c5 : v2.cell? ⟨w.heap.size, 5, none⟩ = some (.int .i64 l1) := Hc_2.out.cell 5
          have r_c6 : v2.cell? ⟨w.heap.size, 6, none⟩ = some (.int .i64 l2) := Hc_2.out.cell 6
          clear cc
          have cc := leaseOk_any l0 l1 l2 v2
          cases q5 : leaseB l0 l1 l2 with
          | false =>
            rw [q5] at cc
            have Hq5 := Lib.hid q5
            clear q5
            go_wp2_with fail
            refine (cc).mono ?_
            rintro e v3 ⟨rfl, b3⟩
            have f3 := bthen f2 b3
            have z3 := b3.size
            have HP_3 := Lib.hid (HP_2.out.below b3)
            have HQ_3 := Lib.hid (HQ_2.out.below b3)
            have Hc_3 := Lib.hid (Hc_2.out.below b3)
            clear lt_c r_c0 r_c1 r_c2 r_c3 r_c4 r_c5 r_c6
            clear HP_2 HQ_2 Hc_2
            have lt_c := Hc_3.out.lt
            have r_c0 : v3.cell? ⟨w.heap.size, 0, none⟩ = some (.int .i64 i0) := Hc_3.out.cell 0
            have r_c1 : v3.cell? ⟨w.heap.size, 1, none⟩ = some (.int .i64 t0) := Hc_3.out.cell 1
            have r_c2 : v3.cell? ⟨w.heap.size, 2, none⟩ = some (.slice A n c) := Hc_3.out.cell 2
            have r_c3 : v3.cell? ⟨w.heap.size, 3, none⟩ = some (.slice B m d) := Hc_3.out.cell 3
            have r_c4 : v3.cell? ⟨w.heap.size, 4, none⟩ = some (.int .i64 l0) := Hc_3.out.cell 4
            have r_c5 : v3.cell? ⟨w.heap.size, 5, none⟩ = some (.int .i64 l1) := Hc_3.out.cell 5
            have r_c6 : v3.cell? ⟨w.heap.size, 6, none⟩ = some (.int .i64 l2) := Hc_3.out.cell 6
            have hv : stateB i0 t0 l0 l1 l2 pl ql = false := by unfold stateB; rw [Hq1.out, Hq2.out, Hq3.out, Hq4.out, Hq5.out]; simp
            have HV := Lib.hid hv
            clear hv
            go_wp21
            go_ret
            exact ⟨ret_bool HV.out.symm, f3⟩
          | true =>
            rw [q5] at cc
            have Hq5 := Lib.hid q5
            clear q5
            go_wp2_with fail
            refine (cc).mono ?_
            rintro e v3 ⟨rfl, b3⟩
            have f3 := bthen f2 b3
            have z3 := b3.size
            have HP_3 := Lib.hid (HP_2.out.below b3)
            have HQ_3 := Lib.hid (HQ_2.out.below b3)
            have Hc_3 := Lib.hid (Hc_2.out.below b3)
            clear lt_c r_c0 r_c1 r_c2 r_c3 r_c4 r_c5 r_c6
            clear HP_2 HQ_2 Hc_2
            have lt_c := Hc_3.out.lt
            have r_c0 : v3.cell? ⟨w.heap.size, 0, none⟩ = some (.int .i64 i0) := Hc_3.out.cell 0
            have r_c1 : v3.cell? ⟨w.heap.size, 1, none⟩ = some (.int .i64 t0) := Hc_3.out.cell 1
            have r_c2 : v3.cell? ⟨w.heap.size, 2, none⟩ = some (.slice A n c) := Hc_3.out.cell 2
            have r_c3 : v3.cell? ⟨w.heap.size, 3, none⟩ = some (.slice B m d) := Hc_3.out.cell 3
            have r_c4 : v3.cell? ⟨w.heap.size, 4, none⟩ = some (.int .i64 l0) := Hc_3.out.cell 4
            have r_c5 : v3.cell? ⟨w.heap.size, 5, none⟩ = some (.int .i64 l1) := Hc_3.out.cell 5
            have r_c6 : v3.cell? ⟨w.heap.size, 6, none⟩ = some (.int .i64 l2) := Hc_3.out.cell 6
            clear cc
            go_wp21
            clear lt_c r_c0 r_c1 r_c2 r_c3 r_c4 r_c5 r_c6
            unfold maxLen at hm
            go_loopw [36] (fun iv wr => ∃ j : Nat, j ≤ m ∧ iv = .int .i64 j ∧ Below w.heap.size w wr ∧ Hid (Blk wr w.heap.size 37 #[.int .i64 i0, .int .i64 t0, .slice A n c, .slice B m d, .int .i64 l0, .int .i64 l1, .int .i64 l2]) ∧ Hid (∀ i, i < j → decide ((ql.getD i default).f ≤ i0) = true)) (fun iv _ => m - (intOf iv).toNat)
            case atStart => exact ⟨0, Nat.zero_le _, rfl, f3, Hc_3, Lib.hid (fun j hj => absurd hj (by omega))⟩
            case round =>
              clear Hc_3 HP_3 HQ_3
              obtain ⟨j, hj, rfl, hbl, HKr, hall⟩ := hrel
              have lt_c := HKr.out.lt
              have r_c0 : wr.cell? ⟨w.heap.size, 0, none⟩ = some (.int .i64 i0) := HKr.out.cell 0
              have r_c1 : wr.cell? ⟨w.heap.size, 1, none⟩ = some (.int .i64 t0) := HKr.out.cell 1
              have r_c2 : wr.cell? ⟨w.heap.size, 2, none⟩ = some (.slice A n c) := HKr.out.cell 2
              have r_c3 : wr.cell? ⟨w.heap.size, 3, none⟩ = some (.slice B m d) := HKr.out.cell 3
              have r_c4 : wr.cell? ⟨w.heap.size, 4, none⟩ = some (.int .i64 l0) := HKr.out.cell 4
              have r_c5 : wr.cell? ⟨w.heap.size, 5, none⟩ = some (.int .i64 l1) := HKr.out.cell 5
              have r_c6 : wr.cell? ⟨w.heap.size, 6, none⟩ = some (.int .i64 l2) := HKr.out.cell 6
              by_cases hlt : j < m
              · have hlt' : (j : Int) < (m : Int) := by omega
                obtain ⟨bw, ow, rfl, hbw, hcw⟩ := sl_jobs HQ.out (by omega)
                obtain ⟨h0, h1, h2, h3, h4⟩ := hcw j hlt
                clear hcw
                rw [← hbl.cell (by exact hbw)] at h0 h1 h2 h3 h4
                have hd := fun (b : Bool) (h : decide ((ql.getD j default).f ≤ i0) = b) => h
                generalize hp : ql.getD j default = jb at h0 h1 h2 h3 h4
                obtain ⟨ji, jd, jk, jv, jf⟩ := jb
                simp only at h0 h1 h2 h3 h4
                have HPP := Lib.hid hp
                clear hp hd
                have hbrw : bw < wr.heap.size := Nat.lt_of_lt_of_le hbw hbl.size
                by_cases hf : jf ≤ i0
                · have hf' : ¬ i0 < jf := by omega
                  go_wp2
                  exact ⟨⟨j + 1, by omega, by go_num, by (repeat' (first | (with_reducible exact Below.refl _ _) | (with_reducible assumption) | (with_reducible refine Below.alloc ?_ ?_ _) | (with_reducible refine Below.drew ?_) | (with_reducible refine Below.setCell ?_ ?_ _) | (with_reducible refine bstep (by assumption) ?_ ?_) | (with_reducible exact Nat.le_refl _) | omega | (simp [*]; done) | (simp [*]; omega))), Lib.hid (HKr.out.alloc _), Lib.hid (upto_succ hall.out (by rw [HPP.out]; exact decide_eq_true hf))⟩, by simp [intOf]; omega⟩
                · have hf' : i0 < jf := by omega
                  have hv : stateB i0 t0 l0 l1 l2 pl ql = false := by
                    have : firedIn ql i0 = false := all_range_false (by rw [hR.out]; exact hlt) (by rw [HPP.out]; exact decide_eq_false hf)
                    unfold stateB; rw [Hq1.out, Hq2.out, Hq3.out, Hq4.out, Hq5.out, this]; rfl
                  have HV := Lib.hid hv
                  clear hv
                  go_wp2
                  go_ret
                  exact ⟨ret_bool HV.out.symm, by (repeat' (first | (with_reducible exact Below.refl _ _) | (with_reducible assumption) | (with_reducible refine Below.alloc ?_ ?_ _) | (with_reducible refine Below.drew ?_) | (with_reducible refine Below.setCell ?_ ?_ _) | (with_reducible refine bstep (by assumption) ?_ ?_) | (with_reducible exact Nat.le_refl _) | omega | (simp [*]; done) | (simp [*]; omega)))⟩
              · have hkn : m = j := by omega
                have hlt' : ¬ (j : Int) < (m : Int) := by omega
                have hv : stateB i0 t0 l0 l1 l2 pl ql = true := by
                  have : firedIn ql i0 = true := all_range_true (by rw [hR.out, hkn]; exact hall.out)
                  unfold stateB; rw [Hq1.out, Hq2.out, Hq3.out, Hq4.out, Hq5.out, this]; rfl
                have HV := Lib.hid hv
                clear hv hkn
                go_wp21
                go_ret
                exact ⟨ret_bool HV.out.symm, hbl⟩
set_option maxRecDepth 100000 in
set_option maxHeartbeats 4000000 in
theorem specStateOk_any (A : Option Addr) (n c : Nat) (B : Option Addr) (m d : Nat) (i0 t0 l0 l1 l2 : Int) (pl : List Pr) (ql : List Jb) (w : World) (hP : Sl w 2 A n (PR pl)) (hQ : Sl w 5 B m (JB ql)) (hl : pl.length = n) (hr : ql.length = m) (hn : n ≤ maxLen) (hm : m ≤ maxLen) :
    Calls Tryz.prog 27 #[.agg #[.int .i64 i0, .int .i64 t0, .slice A n c, .slice B m d, .int .i64 l0, .int .i64 l1, .int .i64 l2]] w fun e' w' => e' = .returned (.bool (stateB i0 t0 l0 l1 l2 pl ql)) ∧ Below w.heap.size w w' := by
  have hL := Lib.hid hl
  have hR := Lib.hid hr
  have HP := Lib.hid hP
  have HQ := Lib.hid hQ
  clear hP hQ hl hr
  go_enter Tryz.func27, Tryz.ntmps27
  go_wp2_with fail
  refine calls_named ?_
  rintro v0 hv0
  have f0 : Below w.heap.size w v0 := by rw [hv0]; (repeat' (first | (with_reducible exact Below.refl _ _) | (with_reducible assumption) | (with_reducible refine Below.alloc ?_ ?_ _) | (with_reducible refine Below.drew ?_) | (with_reducible refine Below.setCell ?_ ?_ _) | (with_reducible refine bstep (by assumption) ?_ ?_) | (with_reducible exact Nat.le_refl _) | omega | (simp [*]; done) | (simp [*]; omega)))
  have z0 : w.heap.size + 1 ≤ v0.heap.size := by rw [hv0]; simp [size_set]
  have HP_0 := Lib.hid (HP.out.below f0)
  have HP_lt := Lib.hid (fun hn => HP.out.lt hn)
  have HQ_0 := Lib.hid (HQ.out.below f0)
  have HQ_lt := Lib.hid (fun hn => HQ.out.lt hn)
  have Hc_0 : Hid (Blk v0 w.heap.size 37 #[.int .i64 i0, .int .i64 t0, .slice A n c, .slice B m d, .int .i64 l0, .int .i64 l1, .int .i64 l2]) := by rw [hv0]; exact Blk.new_at _ _ _ _ (by simp)
  clear hv0
  have lt_c := Hc_0.out.lt
  have r_c0 : v0.cell? ⟨w.heap.size, 0, none⟩ = some (.int .i64 i0) := Hc_0.out.cell 0
  have r_c1 : v0.cell? ⟨w.heap.size, 1, none⟩ = some (.int .i64 t0) := Hc_0.out.cell 1
  have r_c2 : v0.cell? ⟨w.heap.size, 2, none⟩ = some (.slice A n c) := Hc_0.out.cell 2
  have r_c3 : v0.cell? ⟨w.heap.size, 3, none⟩ = some (.slice B m d) := Hc_0.out.cell 3
  have r_c4 : v0.cell? ⟨w.heap.size, 4, none⟩ = some (.int .i64 l0) := Hc_0.out.cell 4
  have r_c5 : v0.cell? ⟨w.heap.size, 5, none⟩ = some (.int .i64 l1) := Hc_0.out.cell 5
  have r_c6 : v0.cell? ⟨w.heap.size, 6, none⟩ = some (.int .i64 l2) := Hc_0.out.cell 6
  have cc := l1In_any i0 0 2000 v0
  cases q1 : inB i0 0 2000 with
  | false =>
    rw [q1] at cc
    have Hq1 := Lib.hid q1
    clear q1
    refine (cc).mono ?_
    rintro e v' ⟨rfl, rfl⟩
    have hv : stateB i0 t0 l0 l1 l2 pl ql = false := by unfold stateB; rw [Hq1.out]; simp
    have HV := Lib.hid hv
    clear hv
    go_wp21
    go_ret
    exact ⟨ret_bool HV.out.symm, f0⟩
  | true =>
    rw [q1] at cc
    have Hq1 := Lib.hid q1
    clear q1
    refine (cc).mono ?_
    rintro e v' ⟨rfl, rfl⟩
    clear cc
    have cc := l16Time_any t0 v0
    cases q2 : inB t0 0 1000000 with
    | false =>
      rw [q2] at cc
      have Hq2 := Lib.hid q2
      clear q2
      go_wp2_with fail
      refine (cc).mono ?_
      rintro e v' ⟨rfl, rfl⟩
      have hv : stateB i0 t0 l0 l1 l2 pl ql = false := by unfold stateB; rw [Hq1.out, Hq2.out]; simp
      have HV := Lib.hid hv
      clear hv
      go_wp21
      go_ret
      exact ⟨ret_bool HV.out.symm, f0⟩
    | true =>
      rw [q2] at cc
      have Hq2 := Lib.hid q2
      clear q2
      go_wp2_with fail
      refine (cc).mono ?_
      rintro e v' ⟨rfl, rfl⟩
      clear cc
      have cc := specPairsOk_any A n c pl v0 HP_0.out hL.out hn
      cases q3 : pairsB pl with
      | false =>
        rw [q3] at cc
        have Hq3 := Lib.hid q3
        clear q3
        go_wp2_with fail
        refine (cc).mono ?_
        rintro e v1 ⟨rfl, b1⟩
        have f1 := bthen f0 b1
        have z1 := b1.size
        have HP_1 := Lib.hid (HP_0.out.below b1)
        have HQ_1 := Lib.hid (HQ_0.out.below b1)
        have Hc_1 := Lib.hid (Hc_0.out.below b1)
        clear lt_c r_c0 r_c1 r_c2 r_c3 r_c4 r_c5 r_c6
        clear HP_0 HQ_0 Hc_0
        have lt_c := Hc_1.out.lt
        have r_c0 : v1.cell? ⟨w.heap.size, 0, none⟩ = some (.int .i64 i0) := Hc_1.out.cell 0
        have r_c1 : v1.cell? ⟨w.heap.size, 1, none⟩ = some (.int .i64 t0) := Hc_1.out.cell 1
        have r_c2 : v1.cell? ⟨w.heap.size, 2, none⟩ = some (.slice A n c) := Hc_1.out.cell 2
        have r_c3 : v1.cell? ⟨w.heap.size, 3, none⟩ = some (.slice B m d) := Hc_1.out.cell 3
        have r_c4 : v1.cell? ⟨w.heap.size, 4, none⟩ = some (.int .i64 l0) := Hc_1.out.cell 4
        have r_c5 : v1.cell? ⟨w.heap.size, 5, none⟩ = some (.int .i64 l1) := Hc_1.out.cell 5
        have r_c6 : v1.cell? ⟨w.heap.size, 6, none⟩ = some (.int .i64 l2) := Hc_1.out.cell 6
        have hv : stateB i0 t0 l0 l1 l2 pl ql = false := by unfold stateB; rw [Hq1.out, Hq2.out, Hq3.out]; simp
        have HV := Lib.hid hv
        clear hv
        go_wp21
        go_ret
        exact ⟨ret_bool HV.out.symm, f1⟩
      | true =>
        rw [q3] at cc
        have Hq3 := Lib.hid q3
        clear q3
        go_wp2_with fail
        refine (cc).mono ?_
        rintro e v1 ⟨rfl, b1⟩
        have f1 := bthen f0 b1
        have z1 := b1.size
        have HP_1 := Lib.hid (HP_0.out.below b1)
        have HQ_1 := Lib.hid (HQ_0.out.below b1)
        have Hc_1 := Lib.hid (Hc_0.out.below b1)
        clear lt_c r_c0 r_c1 r_c2 r_c3 r_c4 r_c5 r_c6
        clear HP_0 HQ_0 Hc_0
        have lt_c := Hc_1.out.lt
        have r_c0 : v1.cell? ⟨w.heap.size, 0, none⟩ = some (.int .i64 i0) := Hc_1.out.cell 0
        have r_c1 : v1.cell? ⟨w.heap.size, 1, none⟩ = some (.int .i64 t0) := Hc_1.out.cell 1
        have r_c2 : v1.cell? ⟨w.heap.size, 2, none⟩ = some (.slice A n c) := Hc_1.out.cell 2
        have r_c3 : v1.cell? ⟨w.heap.size, 3, none⟩ = some (.slice B m d) := Hc_1.out.cell 3
        have r_c4 : v1.cell? ⟨w.heap.size, 4, none⟩ = some (.int .i64 l0) := Hc_1.out.cell 4
        have r_c5 : v1.cell? ⟨w.heap.size, 5, none⟩ = some (.int .i64 l1) := Hc_1.out.cell 5
        have r_c6 : v1.cell? ⟨w.heap.size, 6, none⟩ = some (.int .i64 l2) := Hc_1.out.cell 6
        clear cc
        have cc := specJobsOk_any B m d ql v1 HQ_1.out hR.out hm
        cases q4 : jobsB ql with
        | false =>
          rw [q4] at cc
          have Hq4 := Lib.hid q4
          clear q4
          go_wp2_with fail
          refine (cc).mono ?_
          rintro e v2 ⟨rfl, b2⟩
          have f2 := bthen f1 b2
          have z2 := b2.size
          have HP_2 := Lib.hid (HP_1.out.below b2)
          have HQ_2 := Lib.hid (HQ_1.out.below b2)
          have Hc_2 := Lib.hid (Hc_1.out.below b2)
          clear lt_c r_c0 r_c1 r_c2 r_c3 r_c4 r_c5 r_c6
          clear HP_1 HQ_1 Hc_1
          have lt_c := Hc_2.out.lt
          have r_c0 : v2.cell? ⟨w.heap.size, 0, none⟩ = some (.int .i64 i0) := Hc_2.out.cell 0
          have r_c1 : v2.cell? ⟨w.heap.size, 1, none⟩ = some (.int .i64 t0) := Hc_2.out.cell 1
          have r_c2 : v2.cell? ⟨w.heap.size, 2, none⟩ = some (.slice A n c) := Hc_2.out.cell 2
          have r_c3 : v2.cell? ⟨w.heap.size, 3, none⟩ = some (.slice B m d) := Hc_2.out.cell 3
          have r_c4 : v2.cell? ⟨w.heap.size, 4, none⟩ = some (.int .i64 l0) := Hc_2.out.cell 4
          have r_c5 : v2.cell? ⟨w.heap.size, 5, none⟩ = some (.int .i64 l1) := Hc_2.out.cell 5
          have r_c6 : v2.cell? ⟨w.heap.size, 6, none⟩ = some (.int .i64 l2) := Hc_2.out.cell 6
          have hv : stateB i0 t0 l0 l1 l2 pl ql = false := by unfold stateB; rw [Hq1.out, Hq2.out, Hq3.out, Hq4.out]; simp
          have HV := Lib.hid hv
          clear hv
          go_wp21
          go_ret
          exact ⟨ret_bool HV.out.symm, f2⟩
        | true =>
          rw [q4] at cc
          have Hq4 := Lib.hid q4
          clear q4
          go_wp2_with fail
          refine (cc).mono ?_
          rintro e v2 ⟨rfl, b2⟩
          have f2 := bthen f1 b2
          have z2 := b2.size
          have HP_2 := Lib.hid (HP_1.out.below b2)
          have HQ_2 := Lib.hid (HQ_1.out.below b2)
          have Hc_2 := Lib.hid (Hc_1.out.below b2)
          clear lt_c r_c0 r_c1 r_c2 r_c3 r_c4 r_c5 r_c6
          clear HP_1 HQ_1 Hc_1
          have lt_c := Hc_2.out.lt
          have r_c0 : v2.cell? ⟨w.heap.size, 0, none⟩ = some (.int .i64 i0) := Hc_2.out.cell 0
          have r_c1 : v2.cell? ⟨w.heap.size, 1, none⟩ = some (.int .i64 t0) := Hc_2.out.cell 1
          have r_c2 : v2.cell? ⟨w.heap.size, 2, none⟩ = some (.slice A n c) := Hc_2.out.cell 2
          have r_c3 : v2.cell? ⟨w.heap.size, 3, none⟩ = some (.slice B m d) := Hc_2.out.cell 3
          have r_c4 : v2.cell? ⟨w.heap.size, 4, none⟩ = some (.int .i64 l0) := Hc_2.out.cell 4
          have r_c5 : v2.cell? ⟨w.heap.size, 5, none⟩ = some (.int .i64 l1) := Hc_2.out.cell 5
          have r_c6 : v2.cell? ⟨w.heap.size, 6, none⟩ = some (.int .i64 l2) := Hc_2.out.cell 6
          clear cc
          have cc := specLeaseOk_any l0 l1 l2 v2
          cases q5 : leaseB l0 l1 l2 with
          | false =>
            rw [q5] at cc
            have Hq5 := Lib.hid q5
            clear q5
            go_wp2_with fail
            refine (cc).mono ?_
            rintro e v3 ⟨rfl, b3⟩
            have f3 := bthen f2 b3
            have z3 := b3.size
            have HP_3 := Lib.hid (HP_2.out.below b3)
            have HQ_3 := Lib.hid (HQ_2.out.below b3)
            have Hc_3 := Lib.hid (Hc_2.out.below b3)
            clear lt_c r_c0 r_c1 r_c2 r_c3 r_c4 r_c5 r_c6
            clear HP_2 HQ_2 Hc_2
            have lt_c := Hc_3.out.lt
            have r_c0 : v3.cell? ⟨w.heap.size, 0, none⟩ = some (.int .i64 i0) := Hc_3.out.cell 0
            have r_c1 : v3.cell? ⟨w.heap.size, 1, none⟩ = some (.int .i64 t0) := Hc_3.out.cell 1
            have r_c2 : v3.cell? ⟨w.heap.size, 2, none⟩ = some (.slice A n c) := Hc_3.out.cell 2
            have r_c3 : v3.cell? ⟨w.heap.size, 3, none⟩ = some (.slice B m d) := Hc_3.out.cell 3
            have r_c4 : v3.cell? ⟨w.heap.size, 4, none⟩ = some (.int .i64 l0) := Hc_3.out.cell 4
            have r_c5 : v3.cell? ⟨w.heap.size, 5, none⟩ = some (.int .i64 l1) := Hc_3.out.cell 5
            have r_c6 : v3.cell? ⟨w.heap.size, 6, none⟩ = some (.int .i64 l2) := Hc_3.out.cell 6
            have hv : stateB i0 t0 l0 l1 l2 pl ql = false := by unfold stateB; rw [Hq1.out, Hq2.out, Hq3.out, Hq4.out, Hq5.out]; simp
            have HV := Lib.hid hv
            clear hv
            go_wp21
            go_ret
            exact ⟨ret_bool HV.out.symm, f3⟩
          | true =>
            rw [q5] at cc
            have Hq5 := Lib.hid q5
            clear q5
            go_wp2_with fail
            refine (cc).mono ?_
            rintro e v3 ⟨rfl, b3⟩
            have f3 := bthen f2 b3
            have z3 := b3.size
            have HP_3 := Lib.hid (HP_2.out.below b3)
            have HQ_3 := Lib.hid (HQ_2.out.below b3)
            have Hc_3 := Lib.hid (Hc_2.out.below b3)
            clear lt_c r_c0 r_c1 r_c2 r_c3 r_c4 r_c5 r_c6
            clear HP_2 HQ_2 Hc_2
            have lt_c := Hc_3.out.lt
            have r_c0 : v3.cell? ⟨w.heap.size, 0, none⟩ = some (.int .i64 i0) := Hc_3.out.cell 0
            have r_c1 : v3.cell? ⟨w.heap.size, 1, none⟩ = some (.int .i64 t0) := Hc_3.out.cell 1
            have r_c2 : v3.cell? ⟨w.heap.size, 2, none⟩ = some (.slice A n c) := Hc_3.out.cell 2
            have r_c3 : v3.cell? ⟨w.heap.size, 3, none⟩ = some (.slice B m d) := Hc_3.out.cell 3
            have r_c4 : v3.cell? ⟨w.heap.size, 4, none⟩ = some (.int .i64 l0) := Hc_3.out.cell 4
            have r_c5 : v3.cell? ⟨w.heap.size, 5, none⟩ = some (.int .i64 l1) := Hc_3.out.cell 5
            have r_c6 : v3.cell? ⟨w.heap.size, 6, none⟩ = some (.int .i64 l2) := Hc_3.out.cell 6
            clear cc
            go_wp21
            clear lt_c r_c0 r_c1 r_c2 r_c3 r_c4 r_c5 r_c6
            unfold maxLen at hm
            go_loopw [3] (fun iv wr => ∃ j : Nat, j ≤ m ∧ iv = .int .i64 j ∧ Below w.heap.size w wr ∧ Hid (Blk wr w.heap.size 37 #[.int .i64 i0, .int .i64 t0, .slice A n c, .slice B m d, .int .i64 l0, .int .i64 l1, .int .i64 l2]) ∧ Hid (∀ i, i < j → decide ((ql.getD i default).f ≤ i0) = true)) (fun iv _ => m - (intOf iv).toNat)
            case atStart => exact ⟨0, Nat.zero_le _, rfl, f3, Hc_3, Lib.hid (fun j hj => absurd hj (by omega))⟩
            case round =>
              clear Hc_3 HP_3 HQ_3
              obtain ⟨j, hj, rfl, hbl, HKr, hall⟩ := hrel
              have lt_c := HKr.out.lt
              have r_c0 : wr.cell? ⟨w.heap.size, 0, none⟩ = some (.int .i64 i0) := HKr.out.cell 0
              have r_c1 : wr.cell? ⟨w.heap.size, 1, none⟩ = some (.int .i64 t0) := HKr.out.cell 1
              have r_c2 : wr.cell? ⟨w.heap.size, 2, none⟩ = some (.slice A n c) := HKr.out.cell 2
              have r_c3 : wr.cell? ⟨w.heap.size, 3, none⟩ = some (.slice B m d) := HKr.out.cell 3
              have r_c4 : wr.cell? ⟨w.heap.size, 4, none⟩ = some (.int .i64 l0) := HKr.out.cell 4
              have r_c5 : wr.cell? ⟨w.heap.size, 5, none⟩ = some (.int .i64 l1) := HKr.out.cell 5
              have r_c6 : wr.cell? ⟨w.heap.size, 6, none⟩ = some (.int .i64 l2) := HKr.out.cell 6
              by_cases hlt : j < m
              · have hlt' : (j : Int) < (m : Int) := by omega
                obtain ⟨bw, ow, rfl, hbw, hcw⟩ := sl_jobs HQ.out (by omega)
                obtain ⟨h0, h1, h2, h3, h4⟩ := hcw j hlt
                clear hcw
                rw [← hbl.cell (by exact hbw)] at h0 h1 h2 h3 h4
                have hd := fun (b : Bool) (h : decide ((ql.getD j default).f ≤ i0) = b) => h
                generalize hp : ql.getD j default = jb at h0 h1 h2 h3 h4
                obtain ⟨ji, jd, jk, jv, jf⟩ := jb
                simp only at h0 h1 h2 h3 h4
                have HPP := Lib.hid hp
                clear hp hd
                have hbrw : bw < wr.heap.size := Nat.lt_of_lt_of_le hbw hbl.size
                by_cases hf : jf ≤ i0
                · have hf' : ¬ i0 < jf := by omega
                  go_wp2
                  ((refine wp_region_ext (by kernel_rfl) (by kernel_rfl) ?_); (repeat (any_goals (first | go_big_quiet_step (fail) | (refine wpQuiet_step (fun K hK => ?_); go_simp; split <;> (refine hK _ ?_; clear hK K)) | quiet_step (fail)))); (all_goals (refine wpQuiet_nil ?_; rintro _ ⟨z, rfl⟩; have hb' := z.h; generalize z.w = w1 at hb' ⊢; clear z; (first | (have hb2 := bstep hb' hb hb.size; clear hb' hcb hfb hz1 hz2 hz3 hz4 hb; have hb := hb2; clear hb2) | (have hb := hb'; clear hb')); obtain ⟨hcb, hfb, hz1, hz2, hz3, hz4⟩ := bcell hb; (try simp only [World.size_alloc, World.size_setCell, World.size_drew, Nat.lt_add_one_iff, Nat.add_assoc, Nat.reduceAdd] at hz1 hz2 hz3 hz4))))
                  go_wp2
                  exact ⟨⟨j + 1, by omega, by go_num, bstep hb hbl hbl.size, Lib.hid (HKr.out.below hb), Lib.hid (upto_succ hall.out (by rw [HPP.out]; exact decide_eq_true hf))⟩, by simp [intOf]; omega⟩
                · have hf' : i0 < jf := by omega
                  have hv : stateB i0 t0 l0 l1 l2 pl ql = false := by
                    have : firedIn ql i0 = false := all_range_false (by rw [hR.out]; exact hlt) (by rw [HPP.out]; exact decide_eq_false hf)
                    unfold stateB; rw [Hq1.out, Hq2.out, Hq3.out, Hq4.out, Hq5.out, this]; rfl
                  have HV := Lib.hid hv
                  clear hv
                  go_wp2
                  ((refine wp_region_ext (by kernel_rfl) (by kernel_rfl) ?_); (repeat (any_goals (first | go_big_quiet_step (fail) | (refine wpQuiet_step (fun K hK => ?_); go_simp; split <;> (refine hK _ ?_; clear hK K)) | quiet_step (fail)))); (all_goals (refine wpQuiet_nil ?_; rintro _ ⟨z, rfl⟩; have hb' := z.h; generalize z.w = w1 at hb' ⊢; clear z; (first | (have hb2 := bstep hb' hb hb.size; clear hb' hcb hfb hz1 hz2 hz3 hz4 hb; have hb := hb2; clear hb2) | (have hb := hb'; clear hb')); obtain ⟨hcb, hfb, hz1, hz2, hz3, hz4⟩ := bcell hb; (try simp only [World.size_alloc, World.size_setCell, World.size_drew, Nat.lt_add_one_iff, Nat.add_assoc, Nat.reduceAdd] at hz1 hz2 hz3 hz4))))
                  go_wp2
                  go_ret
                  exact ⟨ret_bool HV.out.symm, bstep hb hbl hbl.size⟩
              · have hkn : m = j := by omega
                have hlt' : ¬ (j : Int) < (m : Int) := by omega
                have hv : stateB i0 t0 l0 l1 l2 pl ql = true := by
                  have : firedIn ql i0 = true := all_range_true (by rw [hR.out, hkn]; exact hall.out)
                  unfold stateB; rw [Hq1.out, Hq2.out, Hq3.out, Hq4.out, Hq5.out, this]; rfl
                have HV := Lib.hid hv
                clear hv hkn
                go_wp21
                go_ret
                exact ⟨ret_bool HV.out.symm, hbl⟩
end Go.Proofs.YtokklkmibjpjnaaGreat
namespace Go.Proofs.YtokklkmibjpjnaaGreat
set_option linter.unusedSimpArgs false
set_option linter.unusedVariables false
attribute [local go_sem] n_lt2 n_lt3 n_lt4 n_le2 n_le3
open Go.RowKit

structure Wt where
  k : Int
  o : Int
  a : Int
  b : Int
  c : Int
  d : Int
  y : Int
instance : Inhabited Wt := ⟨⟨0, 0, 0, 0, 0, 0, 0⟩⟩
def WT (l : List Wt) : List Int := l.flatMap fun j => [j.k, j.o, j.a, j.b, j.c, j.d, j.y]
theorem WT_len (l : List Wt) : (WT l).length = l.length * 7 := flat_len _ 7 l (fun _ _ => rfl)
theorem WT_append (a b : List Wt) : WT (a ++ b) = WT a ++ WT b := by simp [WT]
theorem WT_get (l : List Wt) (i j : Nat) (h : i < l.length) (hj : j < 7) : (WT l).getD (i * 7 + j) 0 = [(l.getD i default).k, (l.getD i default).o, (l.getD i default).a, (l.getD i default).b, (l.getD i default).c, (l.getD i default).d, (l.getD i default).y].getD j 0 := by
  have := flat_getD (fun j : Wt => [j.k, j.o, j.a, j.b, j.c, j.d, j.y]) 7 l (fun _ _ => rfl) i j h hj
  have e : l.getD i default = l[i] := by simp [List.getD, h]
  rw [e]
  exact this
theorem WT_of : ∀ (n : Nat) (zs : List Int), zs.length = n * 7 → ∃ l : List Wt, l.length = n ∧ WT l = zs
  | 0, zs, h => ⟨[], rfl, by simpa [WT] using (List.eq_nil_of_length_eq_zero (by omega)).symm⟩
  | n + 1, a0 :: a1 :: a2 :: a3 :: a4 :: a5 :: a6 :: zs, h => by
    obtain ⟨l, hl, he⟩ := WT_of n zs (by simp at h; omega)
    exact ⟨⟨a0, a1, a2, a3, a4, a5, a6⟩ :: l, by simp [hl], by rw [← he]; rfl⟩
  | n + 1, [], h => by simp at h
  | n + 1, [_], h => by simp at h; omega
  | n + 1, [_, _], h => by simp at h; omega
  | n + 1, [_, _, _], h => by simp at h; omega
  | n + 1, [_, _, _, _], h => by simp at h; omega
  | n + 1, [_, _, _, _, _], h => by simp at h; omega
  | n + 1, [_, _, _, _, _, _], h => by simp at h; omega
theorem sl_wants {w : World} {A : Option Addr} {n : Nat} {l : List Wt} (h : Sl w 7 A n (WT l)) (hn : 0 < n) : ∃ b off, A = some ⟨b, off, none⟩ ∧ b < w.heap.size ∧
    ∀ i, i < n → w.cell? ⟨b, off + i * 7, none⟩ = some (.int .i64 (l.getD i default).k) ∧ w.cell? ⟨b, off + i * 7 + 1, none⟩ = some (.int .i64 (l.getD i default).o) ∧ w.cell? ⟨b, off + i * 7 + 2, none⟩ = some (.int .i64 (l.getD i default).a) ∧ w.cell? ⟨b, off + i * 7 + 3, none⟩ = some (.int .i64 (l.getD i default).b) ∧ w.cell? ⟨b, off + i * 7 + 4, none⟩ = some (.int .i64 (l.getD i default).c) ∧ w.cell? ⟨b, off + i * 7 + 5, none⟩ = some (.int .i64 (l.getD i default).d) ∧ w.cell? ⟨b, off + i * 7 + 6, none⟩ = some (.int .i64 (l.getD i default).y) := by
  have hl : l.length = n := by
    have := h.len
    rw [WT_len] at this
    omega
  obtain ⟨b, off, hA, hb, hc⟩ := h.at_ hn
  have hg : ∀ i, i < n → ∀ j, j < 7 → w.cell? ⟨b, off + i * 7 + j, none⟩ = some (.int .i64 ([(l.getD i default).k, (l.getD i default).o, (l.getD i default).a, (l.getD i default).b, (l.getD i default).c, (l.getD i default).d, (l.getD i default).y].getD j 0)) := fun i hi j hj => by
    rw [Nat.add_assoc, hc (i * 7 + j) (by omega), WT_get l i j (by omega) hj]
  exact ⟨b, off, hA, hb, fun i hi => ⟨hg i hi 0 (by decide), hg i hi 1 (by decide), hg i hi 2 (by decide), hg i hi 3 (by decide), hg i hi 4 (by decide), hg i hi 5 (by decide), hg i hi 6 (by decide)⟩⟩
structure Gt where
  q : Int
  x : Int
  h : Int
  v : Int
instance : Inhabited Gt := ⟨⟨0, 0, 0, 0⟩⟩
def GT (l : List Gt) : List Int := l.flatMap fun j => [j.q, j.x, j.h, j.v]
theorem GT_len (l : List Gt) : (GT l).length = l.length * 4 := flat_len _ 4 l (fun _ _ => rfl)
theorem GT_append (a b : List Gt) : GT (a ++ b) = GT a ++ GT b := by simp [GT]
theorem GT_get (l : List Gt) (i j : Nat) (h : i < l.length) (hj : j < 4) : (GT l).getD (i * 4 + j) 0 = [(l.getD i default).q, (l.getD i default).x, (l.getD i default).h, (l.getD i default).v].getD j 0 := by
  have := flat_getD (fun j : Gt => [j.q, j.x, j.h, j.v]) 4 l (fun _ _ => rfl) i j h hj
  have e : l.getD i default = l[i] := by simp [List.getD, h]
  rw [e]
  exact this
theorem GT_of : ∀ (n : Nat) (zs : List Int), zs.length = n * 4 → ∃ l : List Gt, l.length = n ∧ GT l = zs
  | 0, zs, h => ⟨[], rfl, by simpa [GT] using (List.eq_nil_of_length_eq_zero (by omega)).symm⟩
  | n + 1, a0 :: a1 :: a2 :: a3 :: zs, h => by
    obtain ⟨l, hl, he⟩ := GT_of n zs (by simp at h; omega)
    exact ⟨⟨a0, a1, a2, a3⟩ :: l, by simp [hl], by rw [← he]; rfl⟩
  | n + 1, [], h => by simp at h
  | n + 1, [_], h => by simp at h; omega
  | n + 1, [_, _], h => by simp at h; omega
  | n + 1, [_, _, _], h => by simp at h; omega
theorem sl_gots {w : World} {A : Option Addr} {n : Nat} {l : List Gt} (h : Sl w 4 A n (GT l)) (hn : 0 < n) : ∃ b off, A = some ⟨b, off, none⟩ ∧ b < w.heap.size ∧
    ∀ i, i < n → w.cell? ⟨b, off + i * 4, none⟩ = some (.int .i64 (l.getD i default).q) ∧ w.cell? ⟨b, off + i * 4 + 1, none⟩ = some (.int .i64 (l.getD i default).x) ∧ w.cell? ⟨b, off + i * 4 + 2, none⟩ = some (.int .i64 (l.getD i default).h) ∧ w.cell? ⟨b, off + i * 4 + 3, none⟩ = some (.int .i64 (l.getD i default).v) := by
  have hl : l.length = n := by
    have := h.len
    rw [GT_len] at this
    omega
  obtain ⟨b, off, hA, hb, hc⟩ := h.at_ hn
  have hg : ∀ i, i < n → ∀ j, j < 4 → w.cell? ⟨b, off + i * 4 + j, none⟩ = some (.int .i64 ([(l.getD i default).q, (l.getD i default).x, (l.getD i default).h, (l.getD i default).v].getD j 0)) := fun i hi j hj => by
    rw [Nat.add_assoc, hc (i * 4 + j) (by omega), GT_get l i j (by omega) hj]
  exact ⟨b, off, hA, hb, fun i hi => ⟨hg i hi 0 (by decide), hg i hi 1 (by decide), hg i hi 2 (by decide), hg i hi 3 (by decide)⟩⟩

theorem beqI (a b : Int) : (a == b) = decide (a = b) := by by_cases h : a = b <;> simp [h]
def opB (k a b c d : Int) : Bool :=
  if k = 1 then inB a 0 9 && (inB b 0 999 && (decide (c = 0) && decide (d = 0)))
  else if k = 2 then inB a 0 9 && (decide (b = 0) && (decide (c = 0) && decide (d = 0)))
  else if k = 3 then inB a 1 20 && (inB b 0 1000000 && (inB c 0 9 && inB d 0 999))
  else if k = 4 then inB a 1 20 && (inB b 0 1000 && (decide (c = 0) && decide (d = 0)))
  else if k = 5 then inB a 1 1000 && (decide (b = 0) && (decide (c = 0) && decide (d = 0)))
  else false
theorem l7Key_any (x : Int) (w : World) :
    Calls Tryz.prog 126 #[.int .i64 x] w fun e w' => e = .returned (.bool (inB x 0 9)) ∧ w = w' := by
  go_enter Tryz.func126, Tryz.ntmps126
  go_wp2_with ((go_at_call 60; refine (l1In_any _ _ _ _).mono ?_; rintro e w' ⟨rfl, rfl⟩))
  go_ret; exact ⟨rfl, rfl⟩
theorem l7Value_any (x : Int) (w : World) :
    Calls Tryz.prog 127 #[.int .i64 x] w fun e w' => e = .returned (.bool (inB x 0 999)) ∧ w = w' := by
  go_enter Tryz.func127, Tryz.ntmps127
  go_wp2_with ((go_at_call 60; refine (l1In_any _ _ _ _).mono ?_; rintro e w' ⟨rfl, rfl⟩))
  go_ret; exact ⟨rfl, rfl⟩
theorem l7Id_any (x : Int) (w : World) :
    Calls Tryz.prog 128 #[.int .i64 x] w fun e w' => e = .returned (.bool (inB x 1 20)) ∧ w = w' := by
  go_enter Tryz.func128, Tryz.ntmps128
  go_wp2_with ((go_at_call 60; refine (l1In_any _ _ _ _).mono ?_; rintro e w' ⟨rfl, rfl⟩))
  go_ret; exact ⟨rfl, rfl⟩
theorem l7Seq_any (x : Int) (w : World) :
    Calls Tryz.prog 112 #[.int .i64 x] w fun e w' => e = .returned (.bool (inB x 1 2000)) ∧ w = w' := by
  go_enter Tryz.func112, Tryz.ntmps112
  go_wp2_with ((go_at_call 60; refine (l1In_any _ _ _ _).mono ?_; rintro e w' ⟨rfl, rfl⟩))
  go_ret; exact ⟨rfl, rfl⟩
theorem l7Index_any (x : Int) (w : World) :
    Calls Tryz.prog 109 #[.int .i64 x] w fun e w' => e = .returned (.bool (inB x 1 2000)) ∧ w = w' := by
  go_enter Tryz.func109, Tryz.ntmps109
  go_wp2_with ((go_at_call 60; refine (l1In_any _ _ _ _).mono ?_; rintro e w' ⟨rfl, rfl⟩))
  go_ret; exact ⟨rfl, rfl⟩
theorem specTimeOk_any (x : Int) (w : World) :
    Calls Tryz.prog 110 #[.int .i64 x] w fun e w' => e = .returned (.bool (inB x 0 1000000)) ∧ w = w' := by
  go_enter Tryz.func110, Tryz.ntmps110
  go_wp2_with ((go_at_call 60; refine (l1In_any _ _ _ _).mono ?_; rintro e w' ⟨rfl, rfl⟩))
  go_ret; exact ⟨rfl, rfl⟩
theorem seqOk_any (x : Int) (w : World) :
    Calls Tryz.prog 95 #[.int .i64 x] w fun e w' => e = .returned (.bool (inB x 1 2000)) ∧ w = w' := by
  go_enter Tryz.func95, Tryz.ntmps95
  go_wp2_with ((go_at_call 74; refine (between_any _ _ _ _).mono ?_; rintro e w' ⟨rfl, rfl⟩))
  go_ret; exact ⟨rfl, rfl⟩
theorem askerOk_any (x : Int) (w : World) :
    Calls Tryz.prog 94 #[.int .i64 x] w fun e w' => e = .returned (.bool (inB x 2 5)) ∧ w = w' := by
  go_enter Tryz.func94, Tryz.ntmps94
  go_wp2_with ((go_at_call 74; refine (between_any _ _ _ _).mono ?_; rintro e w' ⟨rfl, rfl⟩))
  go_ret; exact ⟨rfl, rfl⟩
theorem specAskerOk_any (x : Int) (w : World) :
    Calls Tryz.prog 111 #[.int .i64 x] w fun e w' => e = .returned (.bool (inB x 2 5)) ∧ w = w' := by
  go_enter Tryz.func111, Tryz.ntmps111
  go_wp2_with ((go_at_call 60; refine (l1In_any _ _ _ _).mono ?_; rintro e w' ⟨rfl, rfl⟩))
  go_ret; exact ⟨rfl, rfl⟩
set_option maxHeartbeats 1000000 in
theorem opOk_any (k a b c d : Int) (w : World) :
    Calls Tryz.prog 96 #[.agg #[.int .i64 k, .int .i64 a, .int .i64 b, .int .i64 c, .int .i64 d]] w fun e' w' => e' = .returned (.bool (opB k a b c d)) ∧ Below w.heap.size w w' := by
  by_cases h1 : k = 1
  · subst h1
    go_enter Tryz.func96, Tryz.ntmps96
    go_wp2_with (first | (go_at_call 88; refine (keyOk_any _ _).mono ?_; rintro e w' ⟨rfl, rfl⟩) | (go_at_call 89; refine (valueOk_any _ _).mono ?_; rintro e w' ⟨rfl, rfl⟩) | (go_at_call 114; refine (idOk_any _ _).mono ?_; rintro e w' ⟨rfl, rfl⟩) | (go_at_call 75; refine (timeOk_any _ _).mono ?_; rintro e w' ⟨rfl, rfl⟩) | (go_at_call 74; refine (between_any _ _ _ _).mono ?_; rintro e w' ⟨rfl, rfl⟩))
    all_goals (go_ret; unfold opB; exact ⟨ret_bool (by first | (simp [*, beqI]; done) | (subst_vars; simp [*, beqI]; done) | (simp [*, beqI]; intros; omega) | (simp_all [beqI]; done)), by (repeat' (first | (with_reducible exact Below.refl _ _) | (with_reducible assumption) | (with_reducible refine Below.alloc ?_ ?_ _) | (with_reducible refine Below.drew ?_) | (with_reducible refine Below.setCell ?_ ?_ _) | (with_reducible refine bstep (by assumption) ?_ ?_) | (with_reducible exact Nat.le_refl _) | omega | (simp [*]; done) | (simp [*]; omega)))⟩)
  by_cases h2 : k = 2
  · subst h2
    go_enter Tryz.func96, Tryz.ntmps96
    go_wp2_with (first | (go_at_call 88; refine (keyOk_any _ _).mono ?_; rintro e w' ⟨rfl, rfl⟩) | (go_at_call 89; refine (valueOk_any _ _).mono ?_; rintro e w' ⟨rfl, rfl⟩) | (go_at_call 114; refine (idOk_any _ _).mono ?_; rintro e w' ⟨rfl, rfl⟩) | (go_at_call 75; refine (timeOk_any _ _).mono ?_; rintro e w' ⟨rfl, rfl⟩) | (go_at_call 74; refine (between_any _ _ _ _).mono ?_; rintro e w' ⟨rfl, rfl⟩))
    all_goals (go_ret; unfold opB; exact ⟨ret_bool (by first | (simp [*, beqI]; done) | (subst_vars; simp [*, beqI]; done) | (simp [*, beqI]; intros; omega) | (simp_all [beqI]; done)), by (repeat' (first | (with_reducible exact Below.refl _ _) | (with_reducible assumption) | (with_reducible refine Below.alloc ?_ ?_ _) | (with_reducible refine Below.drew ?_) | (with_reducible refine Below.setCell ?_ ?_ _) | (with_reducible refine bstep (by assumption) ?_ ?_) | (with_reducible exact Nat.le_refl _) | omega | (simp [*]; done) | (simp [*]; omega)))⟩)
  by_cases h3 : k = 3
  · subst h3
    go_enter Tryz.func96, Tryz.ntmps96
    go_wp2_with (first | (go_at_call 88; refine (keyOk_any _ _).mono ?_; rintro e w' ⟨rfl, rfl⟩) | (go_at_call 89; refine (valueOk_any _ _).mono ?_; rintro e w' ⟨rfl, rfl⟩) | (go_at_call 114; refine (idOk_any _ _).mono ?_; rintro e w' ⟨rfl, rfl⟩) | (go_at_call 75; refine (timeOk_any _ _).mono ?_; rintro e w' ⟨rfl, rfl⟩) | (go_at_call 74; refine (between_any _ _ _ _).mono ?_; rintro e w' ⟨rfl, rfl⟩))
    all_goals (go_ret; unfold opB; exact ⟨ret_bool (by first | (simp [*, beqI]; done) | (subst_vars; simp [*, beqI]; done) | (simp [*, beqI]; intros; omega) | (simp_all [beqI]; done)), by (repeat' (first | (with_reducible exact Below.refl _ _) | (with_reducible assumption) | (with_reducible refine Below.alloc ?_ ?_ _) | (with_reducible refine Below.drew ?_) | (with_reducible refine Below.setCell ?_ ?_ _) | (with_reducible refine bstep (by assumption) ?_ ?_) | (with_reducible exact Nat.le_refl _) | omega | (simp [*]; done) | (simp [*]; omega)))⟩)
  by_cases h4 : k = 4
  · subst h4
    go_enter Tryz.func96, Tryz.ntmps96
    go_wp2_with (first | (go_at_call 88; refine (keyOk_any _ _).mono ?_; rintro e w' ⟨rfl, rfl⟩) | (go_at_call 89; refine (valueOk_any _ _).mono ?_; rintro e w' ⟨rfl, rfl⟩) | (go_at_call 114; refine (idOk_any _ _).mono ?_; rintro e w' ⟨rfl, rfl⟩) | (go_at_call 75; refine (timeOk_any _ _).mono ?_; rintro e w' ⟨rfl, rfl⟩) | (go_at_call 74; refine (between_any _ _ _ _).mono ?_; rintro e w' ⟨rfl, rfl⟩))
    all_goals (go_ret; unfold opB; exact ⟨ret_bool (by first | (simp [*, beqI]; done) | (subst_vars; simp [*, beqI]; done) | (simp [*, beqI]; intros; omega) | (simp_all [beqI]; done)), by (repeat' (first | (with_reducible exact Below.refl _ _) | (with_reducible assumption) | (with_reducible refine Below.alloc ?_ ?_ _) | (with_reducible refine Below.drew ?_) | (with_reducible refine Below.setCell ?_ ?_ _) | (with_reducible refine bstep (by assumption) ?_ ?_) | (with_reducible exact Nat.le_refl _) | omega | (simp [*]; done) | (simp [*]; omega)))⟩)
  by_cases h5 : k = 5
  · subst h5
    go_enter Tryz.func96, Tryz.ntmps96
    go_wp2_with (first | (go_at_call 88; refine (keyOk_any _ _).mono ?_; rintro e w' ⟨rfl, rfl⟩) | (go_at_call 89; refine (valueOk_any _ _).mono ?_; rintro e w' ⟨rfl, rfl⟩) | (go_at_call 114; refine (idOk_any _ _).mono ?_; rintro e w' ⟨rfl, rfl⟩) | (go_at_call 75; refine (timeOk_any _ _).mono ?_; rintro e w' ⟨rfl, rfl⟩) | (go_at_call 74; refine (between_any _ _ _ _).mono ?_; rintro e w' ⟨rfl, rfl⟩))
    all_goals (go_ret; unfold opB; exact ⟨ret_bool (by first | (simp [*, beqI]; done) | (subst_vars; simp [*, beqI]; done) | (simp [*, beqI]; intros; omega) | (simp_all [beqI]; done)), by (repeat' (first | (with_reducible exact Below.refl _ _) | (with_reducible assumption) | (with_reducible refine Below.alloc ?_ ?_ _) | (with_reducible refine Below.drew ?_) | (with_reducible refine Below.setCell ?_ ?_ _) | (with_reducible refine bstep (by assumption) ?_ ?_) | (with_reducible exact Nat.le_refl _) | omega | (simp [*]; done) | (simp [*]; omega)))⟩)
  go_enter Tryz.func96, Tryz.ntmps96
  go_wp2_with fail
  all_goals (go_ret; unfold opB; exact ⟨ret_bool (by first | (simp [*, beqI]; done) | (subst_vars; simp [*, beqI]; done) | (simp [*, beqI]; intros; omega) | (simp_all [beqI]; done)), by (repeat' (first | (with_reducible exact Below.refl _ _) | (with_reducible assumption) | (with_reducible refine Below.alloc ?_ ?_ _) | (with_reducible refine Below.drew ?_) | (with_reducible refine Below.setCell ?_ ?_ _) | (with_reducible refine bstep (by assumption) ?_ ?_) | (with_reducible exact Nat.le_refl _) | omega | (simp [*]; done) | (simp [*]; omega)))⟩)
set_option maxHeartbeats 1000000 in
theorem specOpOk_any (k a b c d : Int) (w : World) :
    Calls Tryz.prog 113 #[.agg #[.int .i64 k, .int .i64 a, .int .i64 b, .int .i64 c, .int .i64 d]] w fun e' w' => e' = .returned (.bool (opB k a b c d)) ∧ Below w.heap.size w w' := by
  by_cases h1 : k = 1
  · subst h1
    go_enter Tryz.func113, Tryz.ntmps113
    go_wp2_with (first | (go_at_call 126; refine (l7Key_any _ _).mono ?_; rintro e w' ⟨rfl, rfl⟩) | (go_at_call 127; refine (l7Value_any _ _).mono ?_; rintro e w' ⟨rfl, rfl⟩) | (go_at_call 128; refine (l7Id_any _ _).mono ?_; rintro e w' ⟨rfl, rfl⟩) | (go_at_call 110; refine (specTimeOk_any _ _).mono ?_; rintro e w' ⟨rfl, rfl⟩) | (go_at_call 60; refine (l1In_any _ _ _ _).mono ?_; rintro e w' ⟨rfl, rfl⟩))
    all_goals (go_ret; unfold opB; exact ⟨ret_bool (by first | (simp [*, beqI]; done) | (subst_vars; simp [*, beqI]; done) | (simp [*, beqI]; intros; omega) | (simp_all [beqI]; done)), by (repeat' (first | (with_reducible exact Below.refl _ _) | (with_reducible assumption) | (with_reducible refine Below.alloc ?_ ?_ _) | (with_reducible refine Below.drew ?_) | (with_reducible refine Below.setCell ?_ ?_ _) | (with_reducible refine bstep (by assumption) ?_ ?_) | (with_reducible exact Nat.le_refl _) | omega | (simp [*]; done) | (simp [*]; omega)))⟩)
  by_cases h2 : k = 2
  · subst h2
    go_enter Tryz.func113, Tryz.ntmps113
    go_wp2_with (first | (go_at_call 126; refine (l7Key_any _ _).mono ?_; rintro e w' ⟨rfl, rfl⟩) | (go_at_call 127; refine (l7Value_any _ _).mono ?_; rintro e w' ⟨rfl, rfl⟩) | (go_at_call 128; refine (l7Id_any _ _).mono ?_; rintro e w' ⟨rfl, rfl⟩) | (go_at_call 110; refine (specTimeOk_any _ _).mono ?_; rintro e w' ⟨rfl, rfl⟩) | (go_at_call 60; refine (l1In_any _ _ _ _).mono ?_; rintro e w' ⟨rfl, rfl⟩))
    all_goals (go_ret; unfold opB; exact ⟨ret_bool (by first | (simp [*, beqI]; done) | (subst_vars; simp [*, beqI]; done) | (simp [*, beqI]; intros; omega) | (simp_all [beqI]; done)), by (repeat' (first | (with_reducible exact Below.refl _ _) | (with_reducible assumption) | (with_reducible refine Below.alloc ?_ ?_ _) | (with_reducible refine Below.drew ?_) | (with_reducible refine Below.setCell ?_ ?_ _) | (with_reducible refine bstep (by assumption) ?_ ?_) | (with_reducible exact Nat.le_refl _) | omega | (simp [*]; done) | (simp [*]; omega)))⟩)
  by_cases h3 : k = 3
  · subst h3
    go_enter Tryz.func113, Tryz.ntmps113
    go_wp2_with (first | (go_at_call 126; refine (l7Key_any _ _).mono ?_; rintro e w' ⟨rfl, rfl⟩) | (go_at_call 127; refine (l7Value_any _ _).mono ?_; rintro e w' ⟨rfl, rfl⟩) | (go_at_call 128; refine (l7Id_any _ _).mono ?_; rintro e w' ⟨rfl, rfl⟩) | (go_at_call 110; refine (specTimeOk_any _ _).mono ?_; rintro e w' ⟨rfl, rfl⟩) | (go_at_call 60; refine (l1In_any _ _ _ _).mono ?_; rintro e w' ⟨rfl, rfl⟩))
    all_goals (go_ret; unfold opB; exact ⟨ret_bool (by first | (simp [*, beqI]; done) | (subst_vars; simp [*, beqI]; done) | (simp [*, beqI]; intros; omega) | (simp_all [beqI]; done)), by (repeat' (first | (with_reducible exact Below.refl _ _) | (with_reducible assumption) | (with_reducible refine Below.alloc ?_ ?_ _) | (with_reducible refine Below.drew ?_) | (with_reducible refine Below.setCell ?_ ?_ _) | (with_reducible refine bstep (by assumption) ?_ ?_) | (with_reducible exact Nat.le_refl _) | omega | (simp [*]; done) | (simp [*]; omega)))⟩)
  by_cases h4 : k = 4
  · subst h4
    go_enter Tryz.func113, Tryz.ntmps113
    go_wp2_with (first | (go_at_call 126; refine (l7Key_any _ _).mono ?_; rintro e w' ⟨rfl, rfl⟩) | (go_at_call 127; refine (l7Value_any _ _).mono ?_; rintro e w' ⟨rfl, rfl⟩) | (go_at_call 128; refine (l7Id_any _ _).mono ?_; rintro e w' ⟨rfl, rfl⟩) | (go_at_call 110; refine (specTimeOk_any _ _).mono ?_; rintro e w' ⟨rfl, rfl⟩) | (go_at_call 60; refine (l1In_any _ _ _ _).mono ?_; rintro e w' ⟨rfl, rfl⟩))
    all_goals (go_ret; unfold opB; exact ⟨ret_bool (by first | (simp [*, beqI]; done) | (subst_vars; simp [*, beqI]; done) | (simp [*, beqI]; intros; omega) | (simp_all [beqI]; done)), by (repeat' (first | (with_reducible exact Below.refl _ _) | (with_reducible assumption) | (with_reducible refine Below.alloc ?_ ?_ _) | (with_reducible refine Below.drew ?_) | (with_reducible refine Below.setCell ?_ ?_ _) | (with_reducible refine bstep (by assumption) ?_ ?_) | (with_reducible exact Nat.le_refl _) | omega | (simp [*]; done) | (simp [*]; omega)))⟩)
  by_cases h5 : k = 5
  · subst h5
    go_enter Tryz.func113, Tryz.ntmps113
    go_wp2_with (first | (go_at_call 126; refine (l7Key_any _ _).mono ?_; rintro e w' ⟨rfl, rfl⟩) | (go_at_call 127; refine (l7Value_any _ _).mono ?_; rintro e w' ⟨rfl, rfl⟩) | (go_at_call 128; refine (l7Id_any _ _).mono ?_; rintro e w' ⟨rfl, rfl⟩) | (go_at_call 110; refine (specTimeOk_any _ _).mono ?_; rintro e w' ⟨rfl, rfl⟩) | (go_at_call 60; refine (l1In_any _ _ _ _).mono ?_; rintro e w' ⟨rfl, rfl⟩))
    all_goals (go_ret; unfold opB; exact ⟨ret_bool (by first | (simp [*, beqI]; done) | (subst_vars; simp [*, beqI]; done) | (simp [*, beqI]; intros; omega) | (simp_all [beqI]; done)), by (repeat' (first | (with_reducible exact Below.refl _ _) | (with_reducible assumption) | (with_reducible refine Below.alloc ?_ ?_ _) | (with_reducible refine Below.drew ?_) | (with_reducible refine Below.setCell ?_ ?_ _) | (with_reducible refine bstep (by assumption) ?_ ?_) | (with_reducible exact Nat.le_refl _) | omega | (simp [*]; done) | (simp [*]; omega)))⟩)
  go_enter Tryz.func113, Tryz.ntmps113
  go_wp2_with fail
  all_goals (go_ret; unfold opB; exact ⟨ret_bool (by first | (simp [*, beqI]; done) | (subst_vars; simp [*, beqI]; done) | (simp [*, beqI]; intros; omega) | (simp_all [beqI]; done)), by (repeat' (first | (with_reducible exact Below.refl _ _) | (with_reducible assumption) | (with_reducible refine Below.alloc ?_ ?_ _) | (with_reducible refine Below.drew ?_) | (with_reducible refine Below.setCell ?_ ?_ _) | (with_reducible refine bstep (by assumption) ?_ ?_) | (with_reducible exact Nat.le_refl _) | omega | (simp [*]; done) | (simp [*]; omega)))⟩)
def wantB (k o a b c d y : Int) : Bool :=
  if k = 1 ∨ k = 2 ∨ k = 3 then opB o a b c d && (decide (o = k) && decide (y = 0))
  else if k = 4 then decide (o = 0 ∧ a = 0 ∧ b = 0 ∧ c = 0 ∧ d = 0) && inB y 0 9
  else false
def wantOkB (x : Wt) : Bool := wantB x.k x.o x.a x.b x.c x.d x.y
def foundB (h v : Int) : Bool := (decide (h = 0) && decide (v = 0)) || (decide (h = 1) && inB v 0 999)
def gotB (k q x h v seq last : Int) : Bool := decide (q = seq) && (inB x last 2000 && (if k = 4 then foundB h v else decide (last < x) && (decide (h = 0) && decide (v = 0))))
def lastAt (gl : List Gt) (i : Nat) : Int := if i = 0 then 0 else (gl.getD (i - 1) default).x
def gotAt (wl : List Wt) (gl : List Gt) (i : Nat) : Bool := gotB (wl.getD i default).k (gl.getD i default).q (gl.getD i default).x (gl.getD i default).h (gl.getD i default).v ((i : Int) + 1) (lastAt gl i)
def wantsB (wl : List Wt) : Bool := (List.range wl.length).all fun i => wantOkB (wl.getD i default)
def gotsB (wl : List Wt) (gl : List Gt) : Bool := (List.range gl.length).all (gotAt wl gl)
def clientB (i0 : Int) (wl : List Wt) (gl : List Gt) (t0 : Int) : Bool := (decide (i0 = 4) || decide (i0 = 5)) && (decide (wl.length ≤ 12) && (wantsB wl && (decide (gl.length ≤ wl.length) && (gotsB wl gl && decide (t0 = lastAt gl gl.length)))))
attribute [local go_sem] Ext.cell Ext.frozen
theorem foundB_eq (h v : Int) : foundB h v = (inB h 0 1 && (inB v 0 999 && (decide (h = 1) || decide (v = 0)))) := by
  rw [Bool.eq_iff_iff]
  unfold foundB
  simp only [Bool.or_eq_true, Bool.and_eq_true, decide_eq_true_eq, inB_iff]
  omega
end Go.Proofs.YtokklkmibjpjnaaGreat
namespace Go.Proofs.YtokklkmibjpjnaaGreat
set_option linter.unusedSimpArgs false
set_option linter.unusedVariables false
attribute [local go_sem] n_lt2 n_lt3 n_lt4 n_le2 n_le3
open Go.RowKit
def entryB (ex et ec es ek ea eb eg eh : Int) : Bool := inB ex 1 2000 && (inB et 0 1000000 && (inB ec 2 5 && (inB es 1 2000 && opB ek ea eb eg eh)))
def nextB (i0 t0 ex et ec es ek ea eb eg eh : Int) : Bool := entryB ex et ec es ek ea eb eg eh && ((ex == i0 + 1) && decide (t0 ≤ et))
def nextInB (i0 t0 l0 l1 l2 : Int) (pl : List Pr) (ql : List Jb) (ex et ec es ek ea eb eg eh : Int) : Bool := stateB i0 t0 l0 l1 l2 pl ql && nextB i0 t0 ex et ec es ek ea eb eg eh
theorem stateB_i {i0 t0 l0 l1 l2 : Int} {pl : List Pr} {ql : List Jb} (h : stateB i0 t0 l0 l1 l2 pl ql = true) : 0 ≤ i0 ∧ i0 ≤ 2000 := by
  unfold stateB at h
  simp only [Bool.and_eq_true, inB_iff] at h
  exact h.1
attribute [local go_sem] Ext.cell Ext.frozen
set_option maxRecDepth 100000 in
set_option maxHeartbeats 2000000 in
theorem entryOk_any (ex et ec es ek ea eb eg eh : Int) (w : World) :
    Calls Tryz.prog 79 #[.agg #[.int .i64 ex, .int .i64 et, .int .i64 ec, .int .i64 es, .int .i64 ek, .int .i64 ea, .int .i64 eb, .int .i64 eg, .int .i64 eh]] w fun e' w' => e' = .returned (.bool (entryB ex et ec es ek ea eb eg eh)) ∧ Below w.heap.size w w' := by
  go_enter Tryz.func79, Tryz.ntmps79
  go_wp2_with fail
  refine calls_named ?_
  rintro v0 hv0
  have f0 : Below w.heap.size w v0 := by rw [hv0]; (repeat' (first | (with_reducible exact Below.refl _ _) | (with_reducible assumption) | (with_reducible refine Below.alloc ?_ ?_ _) | (with_reducible refine Below.drew ?_) | (with_reducible refine Below.setCell ?_ ?_ _) | (with_reducible refine bstep (by assumption) ?_ ?_) | (with_reducible exact Nat.le_refl _) | omega | (simp [*]; done) | (simp [*]; omega)))
  have z0 : w.heap.size + 1 ≤ v0.heap.size := by rw [hv0]; simp [size_set]
  have Ha_0 : Hid (Blk v0 w.heap.size 43 #[.int .i64 ex, .int .i64 et, .int .i64 ec, .int .i64 es, .int .i64 ek, .int .i64 ea, .int .i64 eb, .int .i64 eg, .int .i64 eh]) := by rw [hv0]; exact Blk.new_at _ _ _ _ (by simp)
  clear hv0
  have lt_a := Ha_0.out.lt
  have r_a0 : v0.cell? ⟨w.heap.size, 0, none⟩ = some (.int .i64 ex) := Ha_0.out.cell 0
  have r_a1 : v0.cell? ⟨w.heap.size, 1, none⟩ = some (.int .i64 et) := Ha_0.out.cell 1
  have r_a2 : v0.cell? ⟨w.heap.size, 2, none⟩ = some (.int .i64 ec) := Ha_0.out.cell 2
  have r_a3 : v0.cell? ⟨w.heap.size, 3, none⟩ = some (.int .i64 es) := Ha_0.out.cell 3
  have r_a4 : v0.cell? ⟨w.heap.size, 4, none⟩ = some (.int .i64 ek) := Ha_0.out.cell 4
  have r_a5 : v0.cell? ⟨w.heap.size, 5, none⟩ = some (.int .i64 ea) := Ha_0.out.cell 5
  have r_a6 : v0.cell? ⟨w.heap.size, 6, none⟩ = some (.int .i64 eb) := Ha_0.out.cell 6
  have r_a7 : v0.cell? ⟨w.heap.size, 7, none⟩ = some (.int .i64 eg) := Ha_0.out.cell 7
  have r_a8 : v0.cell? ⟨w.heap.size, 8, none⟩ = some (.int .i64 eh) := Ha_0.out.cell 8
  have cc := indexOk_any ex v0
  cases q1 : (inB ex 1 2000) with
  | false =>
    rw [q1] at cc
    have Hq1 := Lib.hid q1
    clear q1
    refine (cc).mono ?_
    rintro e v' ⟨rfl, rfl⟩
    have hv : entryB ex et ec es ek ea eb eg eh = false := by unfold entryB; rw [Hq1.out]; simp
    have HV := Lib.hid hv
    clear hv
    go_wp21
    go_ret
    exact ⟨ret_bool HV.out.symm, f0⟩
  | true =>
    rw [q1] at cc
    have Hq1 := Lib.hid q1
    clear q1
    refine (cc).mono ?_
    rintro e v' ⟨rfl, rfl⟩
    clear cc
    have cc := timeOk_any et v0
    cases q2 : (inB et 0 1000000) with
    | false =>
      rw [q2] at cc
      have Hq2 := Lib.hid q2
      clear q2
      go_wp2_with fail
      refine (cc).mono ?_
      rintro e v' ⟨rfl, rfl⟩
      have hv : entryB ex et ec es ek ea eb eg eh = false := by unfold entryB; rw [Hq1.out, Hq2.out]; simp
      have HV := Lib.hid hv
      clear hv
      go_wp21
      go_ret
      exact ⟨ret_bool HV.out.symm, f0⟩
    | true =>
      rw [q2] at cc
      have Hq2 := Lib.hid q2
      clear q2
      go_wp2_with fail
      refine (cc).mono ?_
      rintro e v' ⟨rfl, rfl⟩
      clear cc
      have cc := askerOk_any ec v0
      cases q3 : (inB ec 2 5) with
      | false =>
        rw [q3] at cc
        have Hq3 := Lib.hid q3
        clear q3
        go_wp2_with fail
        refine (cc).mono ?_
        rintro e v' ⟨rfl, rfl⟩
        have hv : entryB ex et ec es ek ea eb eg eh = false := by unfold entryB; rw [Hq1.out, Hq2.out, Hq3.out]; simp
        have HV := Lib.hid hv
        clear hv
        go_wp21
        go_ret
        exact ⟨ret_bool HV.out.symm, f0⟩
      | true =>
        rw [q3] at cc
        have Hq3 := Lib.hid q3
        clear q3
        go_wp2_with fail
        refine (cc).mono ?_
        rintro e v' ⟨rfl, rfl⟩
        clear cc
        have cc := seqOk_any es v0
        cases q4 : (inB es 1 2000) with
        | false =>
          rw [q4] at cc
          have Hq4 := Lib.hid q4
          clear q4
          go_wp2_with fail
          refine (cc).mono ?_
          rintro e v' ⟨rfl, rfl⟩
          have hv : entryB ex et ec es ek ea eb eg eh = false := by unfold entryB; rw [Hq1.out, Hq2.out, Hq3.out, Hq4.out]; simp
          have HV := Lib.hid hv
          clear hv
          go_wp21
          go_ret
          exact ⟨ret_bool HV.out.symm, f0⟩
        | true =>
          rw [q4] at cc
          have Hq4 := Lib.hid q4
          clear q4
          go_wp2_with fail
          refine (cc).mono ?_
          rintro e v' ⟨rfl, rfl⟩
          clear cc
          have cc := opOk_any ek ea eb eg eh v0
          cases q5 : (opB ek ea eb eg eh) with
          | false =>
            rw [q5] at cc
            have Hq5 := Lib.hid q5
            clear q5
            go_wp2_with fail
            refine (cc).mono ?_
            rintro e v1 ⟨rfl, b1⟩
            have f1 := bthen f0 b1
            have z1 := b1.size
            have Ha_1 := Lib.hid (Ha_0.out.below b1)
            clear lt_a r_a0 r_a1 r_a2 r_a3 r_a4 r_a5 r_a6 r_a7 r_a8
            clear Ha_0
            have lt_a := Ha_1.out.lt
            have r_a0 : v1.cell? ⟨w.heap.size, 0, none⟩ = some (.int .i64 ex) := Ha_1.out.cell 0
            have r_a1 : v1.cell? ⟨w.heap.size, 1, none⟩ = some (.int .i64 et) := Ha_1.out.cell 1
            have r_a2 : v1.cell? ⟨w.heap.size, 2, none⟩ = some (.int .i64 ec) := Ha_1.out.cell 2
            have r_a3 : v1.cell? ⟨w.heap.size, 3, none⟩ = some (.int .i64 es) := Ha_1.out.cell 3
            have r_a4 : v1.cell? ⟨w.heap.size, 4, none⟩ = some (.int .i64 ek) := Ha_1.out.cell 4
            have r_a5 : v1.cell? ⟨w.heap.size, 5, none⟩ = some (.int .i64 ea) := Ha_1.out.cell 5
            have r_a6 : v1.cell? ⟨w.heap.size, 6, none⟩ = some (.int .i64 eb) := Ha_1.out.cell 6
            have r_a7 : v1.cell? ⟨w.heap.size, 7, none⟩ = some (.int .i64 eg) := Ha_1.out.cell 7
            have r_a8 : v1.cell? ⟨w.heap.size, 8, none⟩ = some (.int .i64 eh) := Ha_1.out.cell 8
            have hv : entryB ex et ec es ek ea eb eg eh = false := by unfold entryB; rw [Hq1.out, Hq2.out, Hq3.out, Hq4.out, Hq5.out]; simp
            have HV := Lib.hid hv
            clear hv
            go_wp21
            go_ret
            exact ⟨ret_bool HV.out.symm, f1⟩
          | true =>
            rw [q5] at cc
            have Hq5 := Lib.hid q5
            clear q5
            go_wp2_with fail
            refine (cc).mono ?_
            rintro e v1 ⟨rfl, b1⟩
            have f1 := bthen f0 b1
            have z1 := b1.size
            have Ha_1 := Lib.hid (Ha_0.out.below b1)
            clear lt_a r_a0 r_a1 r_a2 r_a3 r_a4 r_a5 r_a6 r_a7 r_a8
            clear Ha_0
            have lt_a := Ha_1.out.lt
            have r_a0 : v1.cell? ⟨w.heap.size, 0, none⟩ = some (.int .i64 ex) := Ha_1.out.cell 0
            have r_a1 : v1.cell? ⟨w.heap.size, 1, none⟩ = some (.int .i64 et) := Ha_1.out.cell 1
            have r_a2 : v1.cell? ⟨w.heap.size, 2, none⟩ = some (.int .i64 ec) := Ha_1.out.cell 2
            have r_a3 : v1.cell? ⟨w.heap.size, 3, none⟩ = some (.int .i64 es) := Ha_1.out.cell 3
            have r_a4 : v1.cell? ⟨w.heap.size, 4, none⟩ = some (.int .i64 ek) := Ha_1.out.cell 4
            have r_a5 : v1.cell? ⟨w.heap.size, 5, none⟩ = some (.int .i64 ea) := Ha_1.out.cell 5
            have r_a6 : v1.cell? ⟨w.heap.size, 6, none⟩ = some (.int .i64 eb) := Ha_1.out.cell 6
            have r_a7 : v1.cell? ⟨w.heap.size, 7, none⟩ = some (.int .i64 eg) := Ha_1.out.cell 7
            have r_a8 : v1.cell? ⟨w.heap.size, 8, none⟩ = some (.int .i64 eh) := Ha_1.out.cell 8
            clear cc
            have hv : entryB ex et ec es ek ea eb eg eh = true := by unfold entryB; rw [Hq1.out, Hq2.out, Hq3.out, Hq4.out, Hq5.out]; rfl
            have HV := Lib.hid hv
            clear hv
            go_wp21
            go_ret
            exact ⟨ret_bool HV.out.symm, f1⟩
set_option maxRecDepth 100000 in
set_option maxHeartbeats 2000000 in
theorem specEntryOk_any (ex et ec es ek ea eb eg eh : Int) (w : World) :
    Calls Tryz.prog 85 #[.agg #[.int .i64 ex, .int .i64 et, .int .i64 ec, .int .i64 es, .int .i64 ek, .int .i64 ea, .int .i64 eb, .int .i64 eg, .int .i64 eh]] w fun e' w' => e' = .returned (.bool (entryB ex et ec es ek ea eb eg eh)) ∧ Below w.heap.size w w' := by
  go_enter Tryz.func85, Tryz.ntmps85
  go_wp2_with fail
  refine calls_named ?_
  rintro v0 hv0
  have f0 : Below w.heap.size w v0 := by rw [hv0]; (repeat' (first | (with_reducible exact Below.refl _ _) | (with_reducible assumption) | (with_reducible refine Below.alloc ?_ ?_ _) | (with_reducible refine Below.drew ?_) | (with_reducible refine Below.setCell ?_ ?_ _) | (with_reducible refine bstep (by assumption) ?_ ?_) | (with_reducible exact Nat.le_refl _) | omega | (simp [*]; done) | (simp [*]; omega)))
  have z0 : w.heap.size + 1 ≤ v0.heap.size := by rw [hv0]; simp [size_set]
  have Ha_0 : Hid (Blk v0 w.heap.size 43 #[.int .i64 ex, .int .i64 et, .int .i64 ec, .int .i64 es, .int .i64 ek, .int .i64 ea, .int .i64 eb, .int .i64 eg, .int .i64 eh]) := by rw [hv0]; exact Blk.new_at _ _ _ _ (by simp)
  clear hv0
  have lt_a := Ha_0.out.lt
  have r_a0 : v0.cell? ⟨w.heap.size, 0, none⟩ = some (.int .i64 ex) := Ha_0.out.cell 0
  have r_a1 : v0.cell? ⟨w.heap.size, 1, none⟩ = some (.int .i64 et) := Ha_0.out.cell 1
  have r_a2 : v0.cell? ⟨w.heap.size, 2, none⟩ = some (.int .i64 ec) := Ha_0.out.cell 2
  have r_a3 : v0.cell? ⟨w.heap.size, 3, none⟩ = some (.int .i64 es) := Ha_0.out.cell 3
  have r_a4 : v0.cell? ⟨w.heap.size, 4, none⟩ = some (.int .i64 ek) := Ha_0.out.cell 4
  have r_a5 : v0.cell? ⟨w.heap.size, 5, none⟩ = some (.int .i64 ea) := Ha_0.out.cell 5
  have r_a6 : v0.cell? ⟨w.heap.size, 6, none⟩ = some (.int .i64 eb) := Ha_0.out.cell 6
  have r_a7 : v0.cell? ⟨w.heap.size, 7, none⟩ = some (.int .i64 eg) := Ha_0.out.cell 7
  have r_a8 : v0.cell? ⟨w.heap.size, 8, none⟩ = some (.int .i64 eh) := Ha_0.out.cell 8
  have cc := l7Index_any ex v0
  cases q1 : (inB ex 1 2000) with
  | false =>
    rw [q1] at cc
    have Hq1 := Lib.hid q1
    clear q1
    refine (cc).mono ?_
    rintro e v' ⟨rfl, rfl⟩
    have hv : entryB ex et ec es ek ea eb eg eh = false := by unfold entryB; rw [Hq1.out]; simp
    have HV := Lib.hid hv
    clear hv
    go_wp21
    go_ret
    exact ⟨ret_bool HV.out.symm, f0⟩
  | true =>
    rw [q1] at cc
    have Hq1 := Lib.hid q1
    clear q1
    refine (cc).mono ?_
    rintro e v' ⟨rfl, rfl⟩
    clear cc
    have cc := specTimeOk_any et v0
    cases q2 : (inB et 0 1000000) with
    | false =>
      rw [q2] at cc
      have Hq2 := Lib.hid q2
      clear q2
      go_wp2_with fail
      refine (cc).mono ?_
      rintro e v' ⟨rfl, rfl⟩
      have hv : entryB ex et ec es ek ea eb eg eh = false := by unfold entryB; rw [Hq1.out, Hq2.out]; simp
      have HV := Lib.hid hv
      clear hv
      go_wp21
      go_ret
      exact ⟨ret_bool HV.out.symm, f0⟩
    | true =>
      rw [q2] at cc
      have Hq2 := Lib.hid q2
      clear q2
      go_wp2_with fail
      refine (cc).mono ?_
      rintro e v' ⟨rfl, rfl⟩
      clear cc
      have cc := specAskerOk_any ec v0
      cases q3 : (inB ec 2 5) with
      | false =>
        rw [q3] at cc
        have Hq3 := Lib.hid q3
        clear q3
        go_wp2_with fail
        refine (cc).mono ?_
        rintro e v' ⟨rfl, rfl⟩
        have hv : entryB ex et ec es ek ea eb eg eh = false := by unfold entryB; rw [Hq1.out, Hq2.out, Hq3.out]; simp
        have HV := Lib.hid hv
        clear hv
        go_wp21
        go_ret
        exact ⟨ret_bool HV.out.symm, f0⟩
      | true =>
        rw [q3] at cc
        have Hq3 := Lib.hid q3
        clear q3
        go_wp2_with fail
        refine (cc).mono ?_
        rintro e v' ⟨rfl, rfl⟩
        clear cc
        have cc := l7Seq_any es v0
        cases q4 : (inB es 1 2000) with
        | false =>
          rw [q4] at cc
          have Hq4 := Lib.hid q4
          clear q4
          go_wp2_with fail
          refine (cc).mono ?_
          rintro e v' ⟨rfl, rfl⟩
          have hv : entryB ex et ec es ek ea eb eg eh = false := by unfold entryB; rw [Hq1.out, Hq2.out, Hq3.out, Hq4.out]; simp
          have HV := Lib.hid hv
          clear hv
          go_wp21
          go_ret
          exact ⟨ret_bool HV.out.symm, f0⟩
        | true =>
          rw [q4] at cc
          have Hq4 := Lib.hid q4
          clear q4
          go_wp2_with fail
          refine (cc).mono ?_
          rintro e v' ⟨rfl, rfl⟩
          clear cc
          have cc := specOpOk_any ek ea eb eg eh v0
          cases q5 : (opB ek ea eb eg eh) with
          | false =>
            rw [q5] at cc
            have Hq5 := Lib.hid q5
            clear q5
            go_wp2_with fail
            refine (cc).mono ?_
            rintro e v1 ⟨rfl, b1⟩
            have f1 := bthen f0 b1
            have z1 := b1.size
            have Ha_1 := Lib.hid (Ha_0.out.below b1)
            clear lt_a r_a0 r_a1 r_a2 r_a3 r_a4 r_a5 r_a6 r_a7 r_a8
            clear Ha_0
            have lt_a := Ha_1.out.lt
            have r_a0 : v1.cell? ⟨w.heap.size, 0, none⟩ = some (.int .i64 ex) := Ha_1.out.cell 0
            have r_a1 : v1.cell? ⟨w.heap.size, 1, none⟩ = some (.int .i64 et) := Ha_1.out.cell 1
            have r_a2 : v1.cell? ⟨w.heap.size, 2, none⟩ = some (.int .i64 ec) := Ha_1.out.cell 2
            have r_a3 : v1.cell? ⟨w.heap.size, 3, none⟩ = some (.int .i64 es) := Ha_1.out.cell 3
            have r_a4 : v1.cell? ⟨w.heap.size, 4, none⟩ = some (.int .i64 ek) := Ha_1.out.cell 4
            have r_a5 : v1.cell? ⟨w.heap.size, 5, none⟩ = some (.int .i64 ea) := Ha_1.out.cell 5
            have r_a6 : v1.cell? ⟨w.heap.size, 6, none⟩ = some (.int .i64 eb) := Ha_1.out.cell 6
            have r_a7 : v1.cell? ⟨w.heap.size, 7, none⟩ = some (.int .i64 eg) := Ha_1.out.cell 7
            have r_a8 : v1.cell? ⟨w.heap.size, 8, none⟩ = some (.int .i64 eh) := Ha_1.out.cell 8
            have hv : entryB ex et ec es ek ea eb eg eh = false := by unfold entryB; rw [Hq1.out, Hq2.out, Hq3.out, Hq4.out, Hq5.out]; simp
            have HV := Lib.hid hv
            clear hv
            go_wp21
            go_ret
            exact ⟨ret_bool HV.out.symm, f1⟩
          | true =>
            rw [q5] at cc
            have Hq5 := Lib.hid q5
            clear q5
            go_wp2_with fail
            refine (cc).mono ?_
            rintro e v1 ⟨rfl, b1⟩
            have f1 := bthen f0 b1
            have z1 := b1.size
            have Ha_1 := Lib.hid (Ha_0.out.below b1)
            clear lt_a r_a0 r_a1 r_a2 r_a3 r_a4 r_a5 r_a6 r_a7 r_a8
            clear Ha_0
            have lt_a := Ha_1.out.lt
            have r_a0 : v1.cell? ⟨w.heap.size, 0, none⟩ = some (.int .i64 ex) := Ha_1.out.cell 0
            have r_a1 : v1.cell? ⟨w.heap.size, 1, none⟩ = some (.int .i64 et) := Ha_1.out.cell 1
            have r_a2 : v1.cell? ⟨w.heap.size, 2, none⟩ = some (.int .i64 ec) := Ha_1.out.cell 2
            have r_a3 : v1.cell? ⟨w.heap.size, 3, none⟩ = some (.int .i64 es) := Ha_1.out.cell 3
            have r_a4 : v1.cell? ⟨w.heap.size, 4, none⟩ = some (.int .i64 ek) := Ha_1.out.cell 4
            have r_a5 : v1.cell? ⟨w.heap.size, 5, none⟩ = some (.int .i64 ea) := Ha_1.out.cell 5
            have r_a6 : v1.cell? ⟨w.heap.size, 6, none⟩ = some (.int .i64 eb) := Ha_1.out.cell 6
            have r_a7 : v1.cell? ⟨w.heap.size, 7, none⟩ = some (.int .i64 eg) := Ha_1.out.cell 7
            have r_a8 : v1.cell? ⟨w.heap.size, 8, none⟩ = some (.int .i64 eh) := Ha_1.out.cell 8
            clear cc
            have hv : entryB ex et ec es ek ea eb eg eh = true := by unfold entryB; rw [Hq1.out, Hq2.out, Hq3.out, Hq4.out, Hq5.out]; rfl
            have HV := Lib.hid hv
            clear hv
            go_wp21
            go_ret
            exact ⟨ret_bool HV.out.symm, f1⟩
set_option maxRecDepth 100000 in
set_option maxHeartbeats 2000000 in
theorem nextIn_any (A : Option Addr) (n c : Nat) (B : Option Addr) (m d : Nat) (i0 t0 l0 l1 l2 : Int) (ex et ec es ek ea eb eg eh : Int) (w : World) (hi0 : 0 ≤ i0) (hi1 : i0 ≤ 2000) :
    Calls Tryz.prog 41 #[.agg #[.int .i64 i0, .int .i64 t0, .slice A n c, .slice B m d, .int .i64 l0, .int .i64 l1, .int .i64 l2], .agg #[.int .i64 ex, .int .i64 et, .int .i64 ec, .int .i64 es, .int .i64 ek, .int .i64 ea, .int .i64 eb, .int .i64 eg, .int .i64 eh]] w fun e' w' => e' = .returned (.bool (nextB i0 t0 ex et ec es ek ea eb eg eh)) ∧ Below w.heap.size w w' := by
  go_enter Tryz.func41, Tryz.ntmps41
  go_wp2_with fail
  refine calls_named ?_
  rintro v0 hv0
  have f0 : Below w.heap.size w v0 := by rw [hv0]; (repeat' (first | (with_reducible exact Below.refl _ _) | (with_reducible assumption) | (with_reducible refine Below.alloc ?_ ?_ _) | (with_reducible refine Below.drew ?_) | (with_reducible refine Below.setCell ?_ ?_ _) | (with_reducible refine bstep (by assumption) ?_ ?_) | (with_reducible exact Nat.le_refl _) | omega | (simp [*]; done) | (simp [*]; omega)))
  have z0 : w.heap.size + 2 ≤ v0.heap.size := by rw [hv0]; simp [size_set]
  have Ha_0 : Hid (Blk v0 w.heap.size 37 #[.int .i64 i0, .int .i64 t0, .slice A n c, .slice B m d, .int .i64 l0, .int .i64 l1, .int .i64 l2]) := by rw [hv0]; exact (Blk.new_at _ _ _ _ (by simp)).alloc _
  have Hb_0 : Hid (Blk v0 (w.heap.size + 1) 43 #[.int .i64 ex, .int .i64 et, .int .i64 ec, .int .i64 es, .int .i64 ek, .int .i64 ea, .int .i64 eb, .int .i64 eg, .int .i64 eh]) := by rw [hv0]; exact Blk.new_at _ _ _ _ (by simp)
  clear hv0
  generalize hg1 : w.heap.size + 1 = g1 at *
  have lg1 : w.heap.size < g1 := by omega
  have lgz : g1 < v0.heap.size := by omega
  have nq1x0 : ¬ g1 = w.heap.size := by omega
  have nq0x1 : ¬ w.heap.size = g1 := by omega
  clear hg1
  have lt_a := Ha_0.out.lt
  have r_a0 : v0.cell? ⟨w.heap.size, 0, none⟩ = some (.int .i64 i0) := Ha_0.out.cell 0
  have r_a1 : v0.cell? ⟨w.heap.size, 1, none⟩ = some (.int .i64 t0) := Ha_0.out.cell 1
  have r_a2 : v0.cell? ⟨w.heap.size, 2, none⟩ = some (.slice A n c) := Ha_0.out.cell 2
  have r_a3 : v0.cell? ⟨w.heap.size, 3, none⟩ = some (.slice B m d) := Ha_0.out.cell 3
  have r_a4 : v0.cell? ⟨w.heap.size, 4, none⟩ = some (.int .i64 l0) := Ha_0.out.cell 4
  have r_a5 : v0.cell? ⟨w.heap.size, 5, none⟩ = some (.int .i64 l1) := Ha_0.out.cell 5
  have r_a6 : v0.cell? ⟨w.heap.size, 6, none⟩ = some (.int .i64 l2) := Ha_0.out.cell 6
  have lt_b := Hb_0.out.lt
  have r_b0 : v0.cell? ⟨g1, 0, none⟩ = some (.int .i64 ex) := Hb_0.out.cell 0
  have r_b1 : v0.cell? ⟨g1, 1, none⟩ = some (.int .i64 et) := Hb_0.out.cell 1
  have r_b2 : v0.cell? ⟨g1, 2, none⟩ = some (.int .i64 ec) := Hb_0.out.cell 2
  have r_b3 : v0.cell? ⟨g1, 3, none⟩ = some (.int .i64 es) := Hb_0.out.cell 3
  have r_b4 : v0.cell? ⟨g1, 4, none⟩ = some (.int .i64 ek) := Hb_0.out.cell 4
  have r_b5 : v0.cell? ⟨g1, 5, none⟩ = some (.int .i64 ea) := Hb_0.out.cell 5
  have r_b6 : v0.cell? ⟨g1, 6, none⟩ = some (.int .i64 eb) := Hb_0.out.cell 6
  have r_b7 : v0.cell? ⟨g1, 7, none⟩ = some (.int .i64 eg) := Hb_0.out.cell 7
  have r_b8 : v0.cell? ⟨g1, 8, none⟩ = some (.int .i64 eh) := Hb_0.out.cell 8
  have cc := entryOk_any ex et ec es ek ea eb eg eh v0
  cases r1 : (entryB ex et ec es ek ea eb eg eh) with
  | false =>
    rw [r1] at cc
    have Hr1 := Lib.hid r1
    clear r1
    refine (cc).mono ?_
    rintro e v1 ⟨rfl, b1⟩
    have f1 := bthen f0 b1
    have z1 := b1.size
    have Ha_1 := Lib.hid (Ha_0.out.below b1)
    have Hb_1 := Lib.hid (Hb_0.out.below b1)
    clear lt_a r_a0 r_a1 r_a2 r_a3 r_a4 r_a5 r_a6 lt_b r_b0 r_b1 r_b2 r_b3 r_b4 r_b5 r_b6 r_b7 r_b8
    clear Ha_0 Hb_0
    have lt_a := Ha_1.out.lt
    have r_a0 : v1.cell? ⟨w.heap.size, 0, none⟩ = some (.int .i64 i0) := Ha_1.out.cell 0
    have r_a1 : v1.cell? ⟨w.heap.size, 1, none⟩ = some (.int .i64 t0) := Ha_1.out.cell 1
    have r_a2 : v1.cell? ⟨w.heap.size, 2, none⟩ = some (.slice A n c) := Ha_1.out.cell 2
    have r_a3 : v1.cell? ⟨w.heap.size, 3, none⟩ = some (.slice B m d) := Ha_1.out.cell 3
    have r_a4 : v1.cell? ⟨w.heap.size, 4, none⟩ = some (.int .i64 l0) := Ha_1.out.cell 4
    have r_a5 : v1.cell? ⟨w.heap.size, 5, none⟩ = some (.int .i64 l1) := Ha_1.out.cell 5
    have r_a6 : v1.cell? ⟨w.heap.size, 6, none⟩ = some (.int .i64 l2) := Ha_1.out.cell 6
    have lt_b := Hb_1.out.lt
    have r_b0 : v1.cell? ⟨g1, 0, none⟩ = some (.int .i64 ex) := Hb_1.out.cell 0
    have r_b1 : v1.cell? ⟨g1, 1, none⟩ = some (.int .i64 et) := Hb_1.out.cell 1
    have r_b2 : v1.cell? ⟨g1, 2, none⟩ = some (.int .i64 ec) := Hb_1.out.cell 2
    have r_b3 : v1.cell? ⟨g1, 3, none⟩ = some (.int .i64 es) := Hb_1.out.cell 3
    have r_b4 : v1.cell? ⟨g1, 4, none⟩ = some (.int .i64 ek) := Hb_1.out.cell 4
    have r_b5 : v1.cell? ⟨g1, 5, none⟩ = some (.int .i64 ea) := Hb_1.out.cell 5
    have r_b6 : v1.cell? ⟨g1, 6, none⟩ = some (.int .i64 eb) := Hb_1.out.cell 6
    have r_b7 : v1.cell? ⟨g1, 7, none⟩ = some (.int .i64 eg) := Hb_1.out.cell 7
    have r_b8 : v1.cell? ⟨g1, 8, none⟩ = some (.int .i64 eh) := Hb_1.out.cell 8
    have hv : nextB i0 t0 ex et ec es ek ea eb eg eh = false := by unfold nextB; rw [Hr1.out]; simp
    have HV := Lib.hid hv
    clear hv
    go_wp21
    go_ret
    exact ⟨ret_bool HV.out.symm, f1⟩
  | true =>
    rw [r1] at cc
    have Hr1 := Lib.hid r1
    clear r1
    refine (cc).mono ?_
    rintro e v1 ⟨rfl, b1⟩
    have f1 := bthen f0 b1
    have z1 := b1.size
    have Ha_1 := Lib.hid (Ha_0.out.below b1)
    have Hb_1 := Lib.hid (Hb_0.out.below b1)
    clear lt_a r_a0 r_a1 r_a2 r_a3 r_a4 r_a5 r_a6 lt_b r_b0 r_b1 r_b2 r_b3 r_b4 r_b5 r_b6 r_b7 r_b8
    clear Ha_0 Hb_0
    have lt_a := Ha_1.out.lt
    have r_a0 : v1.cell? ⟨w.heap.size, 0, none⟩ = some (.int .i64 i0) := Ha_1.out.cell 0
    have r_a1 : v1.cell? ⟨w.heap.size, 1, none⟩ = some (.int .i64 t0) := Ha_1.out.cell 1
    have r_a2 : v1.cell? ⟨w.heap.size, 2, none⟩ = some (.slice A n c) := Ha_1.out.cell 2
    have r_a3 : v1.cell? ⟨w.heap.size, 3, none⟩ = some (.slice B m d) := Ha_1.out.cell 3
    have r_a4 : v1.cell? ⟨w.heap.size, 4, none⟩ = some (.int .i64 l0) := Ha_1.out.cell 4
    have r_a5 : v1.cell? ⟨w.heap.size, 5, none⟩ = some (.int .i64 l1) := Ha_1.out.cell 5
    have r_a6 : v1.cell? ⟨w.heap.size, 6, none⟩ = some (.int .i64 l2) := Ha_1.out.cell 6
    have lt_b := Hb_1.out.lt
    have r_b0 : v1.cell? ⟨g1, 0, none⟩ = some (.int .i64 ex) := Hb_1.out.cell 0
    have r_b1 : v1.cell? ⟨g1, 1, none⟩ = some (.int .i64 et) := Hb_1.out.cell 1
    have r_b2 : v1.cell? ⟨g1, 2, none⟩ = some (.int .i64 ec) := Hb_1.out.cell 2
    have r_b3 : v1.cell? ⟨g1, 3, none⟩ = some (.int .i64 es) := Hb_1.out.cell 3
    have r_b4 : v1.cell? ⟨g1, 4, none⟩ = some (.int .i64 ek) := Hb_1.out.cell 4
    have r_b5 : v1.cell? ⟨g1, 5, none⟩ = some (.int .i64 ea) := Hb_1.out.cell 5
    have r_b6 : v1.cell? ⟨g1, 6, none⟩ = some (.int .i64 eb) := Hb_1.out.cell 6
    have r_b7 : v1.cell? ⟨g1, 7, none⟩ = some (.int .i64 eg) := Hb_1.out.cell 7
    have r_b8 : v1.cell? ⟨g1, 8, none⟩ = some (.int .i64 eh) := Hb_1.out.cell 8
    clear cc
    cases r2 : (ex == i0 + 1) with
    | false =>
      have Hr2 := Lib.hid r2
      have hv : nextB i0 t0 ex et ec es ek ea eb eg eh = false := by unfold nextB; rw [Hr1.out, Hr2.out]; simp
      have HV := Lib.hid hv
      clear hv
      go_wp21
      go_ret
      exact ⟨ret_bool HV.out.symm, f1⟩
    | true =>
      have Hr2 : Hid ((ex == i0 + 1) = true) := r2
      cases r3 : (decide (t0 ≤ et)) with
      | false =>
        have Hr3 := Lib.hid r3
        have hle : et < t0 := by have := of_decide_eq_false r3; omega
        have hv : nextB i0 t0 ex et ec es ek ea eb eg eh = false := by unfold nextB; rw [Hr1.out, Hr2.out, Hr3.out]; simp
        have HV := Lib.hid hv
        clear hv
        go_wp21
        go_ret
        exact ⟨ret_bool HV.out.symm, f1⟩
      | true =>
        have Hr3 : Hid ((decide (t0 ≤ et)) = true) := r3
        have hle : t0 ≤ et := of_decide_eq_true r3
        have hv : nextB i0 t0 ex et ec es ek ea eb eg eh = true := by unfold nextB; rw [Hr1.out, Hr2.out, Hr3.out]; rfl
        have HV := Lib.hid hv
        clear hv
        go_wp21
        go_ret
        exact ⟨ret_bool HV.out.symm, f1⟩
set_option maxRecDepth 100000 in
set_option maxHeartbeats 2000000 in
theorem NextIn_any (A : Option Addr) (n c : Nat) (B : Option Addr) (m d : Nat) (i0 t0 l0 l1 l2 : Int) (pl : List Pr) (ql : List Jb) (ex et ec es ek ea eb eg eh : Int) (w : World) (hP : Sl w 2 A n (PR pl)) (hQ : Sl w 5 B m (JB ql)) (hl : pl.length = n) (hr : ql.length = m) (hn : n ≤ maxLen) (hm : m ≤ maxLen) :
    Calls Tryz.prog 54 #[.agg #[.int .i64 i0, .int .i64 t0, .slice A n c, .slice B m d, .int .i64 l0, .int .i64 l1, .int .i64 l2], .agg #[.int .i64 ex, .int .i64 et, .int .i64 ec, .int .i64 es, .int .i64 ek, .int .i64 ea, .int .i64 eb, .int .i64 eg, .int .i64 eh]] w fun e' w' => e' = .returned (.bool (nextInB i0 t0 l0 l1 l2 pl ql ex et ec es ek ea eb eg eh)) ∧ Below w.heap.size w w' := by
  have hL := Lib.hid hl
  have hR := Lib.hid hr
  have HP := Lib.hid hP
  have HQ := Lib.hid hQ
  clear hP hQ hl hr
  go_enter Tryz.func54, Tryz.ntmps54
  go_wp2_with fail
  refine calls_named ?_
  rintro v0 hv0
  have f0 : Below w.heap.size w v0 := by rw [hv0]; (repeat' (first | (with_reducible exact Below.refl _ _) | (with_reducible assumption) | (with_reducible refine Below.alloc ?_ ?_ _) | (with_reducible refine Below.drew ?_) | (with_reducible refine Below.setCell ?_ ?_ _) | (with_reducible refine bstep (by assumption) ?_ ?_) | (with_reducible exact Nat.le_refl _) | omega | (simp [*]; done) | (simp [*]; omega)))
  have z0 : w.heap.size + 2 ≤ v0.heap.size := by rw [hv0]; simp [size_set]
  have HP_0 := Lib.hid (HP.out.below f0)
  have HP_lt := Lib.hid (fun hn => HP.out.lt hn)
  have HQ_0 := Lib.hid (HQ.out.below f0)
  have HQ_lt := Lib.hid (fun hn => HQ.out.lt hn)
  have Ha_0 : Hid (Blk v0 w.heap.size 37 #[.int .i64 i0, .int .i64 t0, .slice A n c, .slice B m d, .int .i64 l0, .int .i64 l1, .int .i64 l2]) := by rw [hv0]; exact (Blk.new_at _ _ _ _ (by simp)).alloc _
  have Hb_0 : Hid (Blk v0 (w.heap.size + 1) 43 #[.int .i64 ex, .int .i64 et, .int .i64 ec, .int .i64 es, .int .i64 ek, .int .i64 ea, .int .i64 eb, .int .i64 eg, .int .i64 eh]) := by rw [hv0]; exact Blk.new_at _ _ _ _ (by simp)
  clear hv0
  generalize hg1 : w.heap.size + 1 = g1 at *
  have lg1 : w.heap.size < g1 := by omega
  have lgz : g1 < v0.heap.size := by omega
  have nq1x0 : ¬ g1 = w.heap.size := by omega
  have nq0x1 : ¬ w.heap.size = g1 := by omega
  clear hg1
  have lt_a := Ha_0.out.lt
  have r_a0 : v0.cell? ⟨w.heap.size, 0, none⟩ = some (.int .i64 i0) := Ha_0.out.cell 0
  have r_a1 : v0.cell? ⟨w.heap.size, 1, none⟩ = some (.int .i64 t0) := Ha_0.out.cell 1
  have r_a2 : v0.cell? ⟨w.heap.size, 2, none⟩ = some (.slice A n c) := Ha_0.out.cell 2
  have r_a3 : v0.cell? ⟨w.heap.size, 3, none⟩ = some (.slice B m d) := Ha_0.out.cell 3
  have r_a4 : v0.cell? ⟨w.heap.size, 4, none⟩ = some (.int .i64 l0) := Ha_0.out.cell 4
  have r_a5 : v0.cell? ⟨w.heap.size, 5, none⟩ = some (.int .i64 l1) := Ha_0.out.cell 5
  have r_a6 : v0.cell? ⟨w.heap.size, 6, none⟩ = some (.int .i64 l2) := Ha_0.out.cell 6
  have lt_b := Hb_0.out.lt
  have r_b0 : v0.cell? ⟨g1, 0, none⟩ = some (.int .i64 ex) := Hb_0.out.cell 0
  have r_b1 : v0.cell? ⟨g1, 1, none⟩ = some (.int .i64 et) := Hb_0.out.cell 1
  have r_b2 : v0.cell? ⟨g1, 2, none⟩ = some (.int .i64 ec) := Hb_0.out.cell 2
  have r_b3 : v0.cell? ⟨g1, 3, none⟩ = some (.int .i64 es) := Hb_0.out.cell 3
  have r_b4 : v0.cell? ⟨g1, 4, none⟩ = some (.int .i64 ek) := Hb_0.out.cell 4
  have r_b5 : v0.cell? ⟨g1, 5, none⟩ = some (.int .i64 ea) := Hb_0.out.cell 5
  have r_b6 : v0.cell? ⟨g1, 6, none⟩ = some (.int .i64 eb) := Hb_0.out.cell 6
  have r_b7 : v0.cell? ⟨g1, 7, none⟩ = some (.int .i64 eg) := Hb_0.out.cell 7
  have r_b8 : v0.cell? ⟨g1, 8, none⟩ = some (.int .i64 eh) := Hb_0.out.cell 8
  have cc := stateOk_any A n c B m d i0 t0 l0 l1 l2 pl ql v0 HP_0.out HQ_0.out hL.out hR.out hn hm
  cases r0 : (stateB i0 t0 l0 l1 l2 pl ql) with
  | false =>
    rw [r0] at cc
    have Hr0 := Lib.hid r0
    clear r0
    refine (cc).mono ?_
    rintro e v1 ⟨rfl, b1⟩
    have f1 := bthen f0 b1
    have z1 := b1.size
    have HP_1 := Lib.hid (HP_0.out.below b1)
    have HQ_1 := Lib.hid (HQ_0.out.below b1)
    have Ha_1 := Lib.hid (Ha_0.out.below b1)
    have Hb_1 := Lib.hid (Hb_0.out.below b1)
    clear lt_a r_a0 r_a1 r_a2 r_a3 r_a4 r_a5 r_a6 lt_b r_b0 r_b1 r_b2 r_b3 r_b4 r_b5 r_b6 r_b7 r_b8
    clear HP_0 HQ_0 Ha_0 Hb_0
    have lt_a := Ha_1.out.lt
    have r_a0 : v1.cell? ⟨w.heap.size, 0, none⟩ = some (.int .i64 i0) := Ha_1.out.cell 0
    have r_a1 : v1.cell? ⟨w.heap.size, 1, none⟩ = some (.int .i64 t0) := Ha_1.out.cell 1
    have r_a2 : v1.cell? ⟨w.heap.size, 2, none⟩ = some (.slice A n c) := Ha_1.out.cell 2
    have r_a3 : v1.cell? ⟨w.heap.size, 3, none⟩ = some (.slice B m d) := Ha_1.out.cell 3
    have r_a4 : v1.cell? ⟨w.heap.size, 4, none⟩ = some (.int .i64 l0) := Ha_1.out.cell 4
    have r_a5 : v1.cell? ⟨w.heap.size, 5, none⟩ = some (.int .i64 l1) := Ha_1.out.cell 5
    have r_a6 : v1.cell? ⟨w.heap.size, 6, none⟩ = some (.int .i64 l2) := Ha_1.out.cell 6
    have lt_b := Hb_1.out.lt
    have r_b0 : v1.cell? ⟨g1, 0, none⟩ = some (.int .i64 ex) := Hb_1.out.cell 0
    have r_b1 : v1.cell? ⟨g1, 1, none⟩ = some (.int .i64 et) := Hb_1.out.cell 1
    have r_b2 : v1.cell? ⟨g1, 2, none⟩ = some (.int .i64 ec) := Hb_1.out.cell 2
    have r_b3 : v1.cell? ⟨g1, 3, none⟩ = some (.int .i64 es) := Hb_1.out.cell 3
    have r_b4 : v1.cell? ⟨g1, 4, none⟩ = some (.int .i64 ek) := Hb_1.out.cell 4
    have r_b5 : v1.cell? ⟨g1, 5, none⟩ = some (.int .i64 ea) := Hb_1.out.cell 5
    have r_b6 : v1.cell? ⟨g1, 6, none⟩ = some (.int .i64 eb) := Hb_1.out.cell 6
    have r_b7 : v1.cell? ⟨g1, 7, none⟩ = some (.int .i64 eg) := Hb_1.out.cell 7
    have r_b8 : v1.cell? ⟨g1, 8, none⟩ = some (.int .i64 eh) := Hb_1.out.cell 8
    have hv : nextInB i0 t0 l0 l1 l2 pl ql ex et ec es ek ea eb eg eh = false := by unfold nextInB; rw [Hr0.out]; simp
    have HV := Lib.hid hv
    clear hv
    go_wp21
    go_ret
    exact ⟨ret_bool HV.out.symm, f1⟩
  | true =>
    rw [r0] at cc
    have Hr0 := Lib.hid r0
    clear r0
    refine (cc).mono ?_
    rintro e v1 ⟨rfl, b1⟩
    have f1 := bthen f0 b1
    have z1 := b1.size
    have HP_1 := Lib.hid (HP_0.out.below b1)
    have HQ_1 := Lib.hid (HQ_0.out.below b1)
    have Ha_1 := Lib.hid (Ha_0.out.below b1)
    have Hb_1 := Lib.hid (Hb_0.out.below b1)
    clear lt_a r_a0 r_a1 r_a2 r_a3 r_a4 r_a5 r_a6 lt_b r_b0 r_b1 r_b2 r_b3 r_b4 r_b5 r_b6 r_b7 r_b8
    clear HP_0 HQ_0 Ha_0 Hb_0
    have lt_a := Ha_1.out.lt
    have r_a0 : v1.cell? ⟨w.heap.size, 0, none⟩ = some (.int .i64 i0) := Ha_1.out.cell 0
    have r_a1 : v1.cell? ⟨w.heap.size, 1, none⟩ = some (.int .i64 t0) := Ha_1.out.cell 1
    have r_a2 : v1.cell? ⟨w.heap.size, 2, none⟩ = some (.slice A n c) := Ha_1.out.cell 2
    have r_a3 : v1.cell? ⟨w.heap.size, 3, none⟩ = some (.slice B m d) := Ha_1.out.cell 3
    have r_a4 : v1.cell? ⟨w.heap.size, 4, none⟩ = some (.int .i64 l0) := Ha_1.out.cell 4
    have r_a5 : v1.cell? ⟨w.heap.size, 5, none⟩ = some (.int .i64 l1) := Ha_1.out.cell 5
    have r_a6 : v1.cell? ⟨w.heap.size, 6, none⟩ = some (.int .i64 l2) := Ha_1.out.cell 6
    have lt_b := Hb_1.out.lt
    have r_b0 : v1.cell? ⟨g1, 0, none⟩ = some (.int .i64 ex) := Hb_1.out.cell 0
    have r_b1 : v1.cell? ⟨g1, 1, none⟩ = some (.int .i64 et) := Hb_1.out.cell 1
    have r_b2 : v1.cell? ⟨g1, 2, none⟩ = some (.int .i64 ec) := Hb_1.out.cell 2
    have r_b3 : v1.cell? ⟨g1, 3, none⟩ = some (.int .i64 es) := Hb_1.out.cell 3
    have r_b4 : v1.cell? ⟨g1, 4, none⟩ = some (.int .i64 ek) := Hb_1.out.cell 4
    have r_b5 : v1.cell? ⟨g1, 5, none⟩ = some (.int .i64 ea) := Hb_1.out.cell 5
    have r_b6 : v1.cell? ⟨g1, 6, none⟩ = some (.int .i64 eb) := Hb_1.out.cell 6
    have r_b7 : v1.cell? ⟨g1, 7, none⟩ = some (.int .i64 eg) := Hb_1.out.cell 7
    have r_b8 : v1.cell? ⟨g1, 8, none⟩ = some (.int .i64 eh) := Hb_1.out.cell 8
    clear cc
    obtain ⟨hi0, hi1⟩ := stateB_i Hr0.out
    have c9 := nextIn_any A n c B m d i0 t0 l0 l1 l2 ex et ec es ek ea eb eg eh v1 hi0 hi1
    have hv : nextInB i0 t0 l0 l1 l2 pl ql ex et ec es ek ea eb eg eh = nextB i0 t0 ex et ec es ek ea eb eg eh := by unfold nextInB; rw [Hr0.out]; rfl
    have HV := Lib.hid hv
    clear hv
    generalize nextB i0 t0 ex et ec es ek ea eb eg eh = q at c9 HV
    go_wp2_with fail
    refine (c9).mono ?_
    rintro e v2 ⟨rfl, b2⟩
    have f2 := bthen f1 b2
    have z2 := b2.size
    have HP_2 := Lib.hid (HP_1.out.below b2)
    have HQ_2 := Lib.hid (HQ_1.out.below b2)
    have Ha_2 := Lib.hid (Ha_1.out.below b2)
    have Hb_2 := Lib.hid (Hb_1.out.below b2)
    clear lt_a r_a0 r_a1 r_a2 r_a3 r_a4 r_a5 r_a6 lt_b r_b0 r_b1 r_b2 r_b3 r_b4 r_b5 r_b6 r_b7 r_b8
    clear HP_1 HQ_1 Ha_1 Hb_1
    have lt_a := Ha_2.out.lt
    have r_a0 : v2.cell? ⟨w.heap.size, 0, none⟩ = some (.int .i64 i0) := Ha_2.out.cell 0
    have r_a1 : v2.cell? ⟨w.heap.size, 1, none⟩ = some (.int .i64 t0) := Ha_2.out.cell 1
    have r_a2 : v2.cell? ⟨w.heap.size, 2, none⟩ = some (.slice A n c) := Ha_2.out.cell 2
    have r_a3 : v2.cell? ⟨w.heap.size, 3, none⟩ = some (.slice B m d) := Ha_2.out.cell 3
    have r_a4 : v2.cell? ⟨w.heap.size, 4, none⟩ = some (.int .i64 l0) := Ha_2.out.cell 4
    have r_a5 : v2.cell? ⟨w.heap.size, 5, none⟩ = some (.int .i64 l1) := Ha_2.out.cell 5
    have r_a6 : v2.cell? ⟨w.heap.size, 6, none⟩ = some (.int .i64 l2) := Ha_2.out.cell 6
    have lt_b := Hb_2.out.lt
    have r_b0 : v2.cell? ⟨g1, 0, none⟩ = some (.int .i64 ex) := Hb_2.out.cell 0
    have r_b1 : v2.cell? ⟨g1, 1, none⟩ = some (.int .i64 et) := Hb_2.out.cell 1
    have r_b2 : v2.cell? ⟨g1, 2, none⟩ = some (.int .i64 ec) := Hb_2.out.cell 2
    have r_b3 : v2.cell? ⟨g1, 3, none⟩ = some (.int .i64 es) := Hb_2.out.cell 3
    have r_b4 : v2.cell? ⟨g1, 4, none⟩ = some (.int .i64 ek) := Hb_2.out.cell 4
    have r_b5 : v2.cell? ⟨g1, 5, none⟩ = some (.int .i64 ea) := Hb_2.out.cell 5
    have r_b6 : v2.cell? ⟨g1, 6, none⟩ = some (.int .i64 eb) := Hb_2.out.cell 6
    have r_b7 : v2.cell? ⟨g1, 7, none⟩ = some (.int .i64 eg) := Hb_2.out.cell 7
    have r_b8 : v2.cell? ⟨g1, 8, none⟩ = some (.int .i64 eh) := Hb_2.out.cell 8
    go_wp21
    go_ret
    exact ⟨ret_bool HV.out.symm, f2⟩
set_option maxRecDepth 100000 in
set_option maxHeartbeats 2000000 in
theorem specNextIn_any (A : Option Addr) (n c : Nat) (B : Option Addr) (m d : Nat) (i0 t0 l0 l1 l2 : Int) (pl : List Pr) (ql : List Jb) (ex et ec es ek ea eb eg eh : Int) (w : World) (hP : Sl w 2 A n (PR pl)) (hQ : Sl w 5 B m (JB ql)) (hl : pl.length = n) (hr : ql.length = m) (hn : n ≤ maxLen) (hm : m ≤ maxLen) :
    Calls Tryz.prog 51 #[.agg #[.int .i64 i0, .int .i64 t0, .slice A n c, .slice B m d, .int .i64 l0, .int .i64 l1, .int .i64 l2], .agg #[.int .i64 ex, .int .i64 et, .int .i64 ec, .int .i64 es, .int .i64 ek, .int .i64 ea, .int .i64 eb, .int .i64 eg, .int .i64 eh]] w fun e' w' => e' = .returned (.bool (nextInB i0 t0 l0 l1 l2 pl ql ex et ec es ek ea eb eg eh)) ∧ Below w.heap.size w w' := by
  have hL := Lib.hid hl
  have hR := Lib.hid hr
  have HP := Lib.hid hP
  have HQ := Lib.hid hQ
  clear hP hQ hl hr
  go_enter Tryz.func51, Tryz.ntmps51
  go_wp2_with fail
  refine calls_named ?_
  rintro v0 hv0
  have f0 : Below w.heap.size w v0 := by rw [hv0]; (repeat' (first | (with_reducible exact Below.refl _ _) | (with_reducible assumption) | (with_reducible refine Below.alloc ?_ ?_ _) | (with_reducible refine Below.drew ?_) | (with_reducible refine Below.setCell ?_ ?_ _) | (with_reducible refine bstep (by assumption) ?_ ?_) | (with_reducible exact Nat.le_refl _) | omega | (simp [*]; done) | (simp [*]; omega)))
  have z0 : w.heap.size + 2 ≤ v0.heap.size := by rw [hv0]; simp [size_set]
  have HP_0 := Lib.hid (HP.out.below f0)
  have HP_lt := Lib.hid (fun hn => HP.out.lt hn)
  have HQ_0 := Lib.hid (HQ.out.below f0)
  have HQ_lt := Lib.hid (fun hn => HQ.out.lt hn)
  have Ha_0 : Hid (Blk v0 w.heap.size 37 #[.int .i64 i0, .int .i64 t0, .slice A n c, .slice B m d, .int .i64 l0, .int .i64 l1, .int .i64 l2]) := by rw [hv0]; exact (Blk.new_at _ _ _ _ (by simp)).alloc _
  have Hb_0 : Hid (Blk v0 (w.heap.size + 1) 43 #[.int .i64 ex, .int .i64 et, .int .i64 ec, .int .i64 es, .int .i64 ek, .int .i64 ea, .int .i64 eb, .int .i64 eg, .int .i64 eh]) := by rw [hv0]; exact Blk.new_at _ _ _ _ (by simp)
  clear hv0
  generalize hg1 : w.heap.size + 1 = g1 at *
  have lg1 : w.heap.size < g1 := by omega
  have lgz : g1 < v0.heap.size := by omega
  have nq1x0 : ¬ g1 = w.heap.size := by omega
  have nq0x1 : ¬ w.heap.size = g1 := by omega
  clear hg1
  have lt_a := Ha_0.out.lt
  have r_a0 : v0.cell? ⟨w.heap.size, 0, none⟩ = some (.int .i64 i0) := Ha_0.out.cell 0
  have r_a1 : v0.cell? ⟨w.heap.size, 1, none⟩ = some (.int .i64 t0) := Ha_0.out.cell 1
  have r_a2 : v0.cell? ⟨w.heap.size, 2, none⟩ = some (.slice A n c) := Ha_0.out.cell 2
  have r_a3 : v0.cell? ⟨w.heap.size, 3, none⟩ = some (.slice B m d) := Ha_0.out.cell 3
  have r_a4 : v0.cell? ⟨w.heap.size, 4, none⟩ = some (.int .i64 l0) := Ha_0.out.cell 4
  have r_a5 : v0.cell? ⟨w.heap.size, 5, none⟩ = some (.int .i64 l1) := Ha_0.out.cell 5
  have r_a6 : v0.cell? ⟨w.heap.size, 6, none⟩ = some (.int .i64 l2) := Ha_0.out.cell 6
  have lt_b := Hb_0.out.lt
  have r_b0 : v0.cell? ⟨g1, 0, none⟩ = some (.int .i64 ex) := Hb_0.out.cell 0
  have r_b1 : v0.cell? ⟨g1, 1, none⟩ = some (.int .i64 et) := Hb_0.out.cell 1
  have r_b2 : v0.cell? ⟨g1, 2, none⟩ = some (.int .i64 ec) := Hb_0.out.cell 2
  have r_b3 : v0.cell? ⟨g1, 3, none⟩ = some (.int .i64 es) := Hb_0.out.cell 3
  have r_b4 : v0.cell? ⟨g1, 4, none⟩ = some (.int .i64 ek) := Hb_0.out.cell 4
  have r_b5 : v0.cell? ⟨g1, 5, none⟩ = some (.int .i64 ea) := Hb_0.out.cell 5
  have r_b6 : v0.cell? ⟨g1, 6, none⟩ = some (.int .i64 eb) := Hb_0.out.cell 6
  have r_b7 : v0.cell? ⟨g1, 7, none⟩ = some (.int .i64 eg) := Hb_0.out.cell 7
  have r_b8 : v0.cell? ⟨g1, 8, none⟩ = some (.int .i64 eh) := Hb_0.out.cell 8
  have cc := specStateOk_any A n c B m d i0 t0 l0 l1 l2 pl ql v0 HP_0.out HQ_0.out hL.out hR.out hn hm
  cases r0 : (stateB i0 t0 l0 l1 l2 pl ql) with
  | false =>
    rw [r0] at cc
    have Hr0 := Lib.hid r0
    clear r0
    refine (cc).mono ?_
    rintro e v1 ⟨rfl, b1⟩
    have f1 := bthen f0 b1
    have z1 := b1.size
    have HP_1 := Lib.hid (HP_0.out.below b1)
    have HQ_1 := Lib.hid (HQ_0.out.below b1)
    have Ha_1 := Lib.hid (Ha_0.out.below b1)
    have Hb_1 := Lib.hid (Hb_0.out.below b1)
    clear lt_a r_a0 r_a1 r_a2 r_a3 r_a4 r_a5 r_a6 lt_b r_b0 r_b1 r_b2 r_b3 r_b4 r_b5 r_b6 r_b7 r_b8
    clear HP_0 HQ_0 Ha_0 Hb_0
    have lt_a := Ha_1.out.lt
    have r_a0 : v1.cell? ⟨w.heap.size, 0, none⟩ = some (.int .i64 i0) := Ha_1.out.cell 0
    have r_a1 : v1.cell? ⟨w.heap.size, 1, none⟩ = some (.int .i64 t0) := Ha_1.out.cell 1
    have r_a2 : v1.cell? ⟨w.heap.size, 2, none⟩ = some (.slice A n c) := Ha_1.out.cell 2
    have r_a3 : v1.cell? ⟨w.heap.size, 3, none⟩ = some (.slice B m d) := Ha_1.out.cell 3
    have r_a4 : v1.cell? ⟨w.heap.size, 4, none⟩ = some (.int .i64 l0) := Ha_1.out.cell 4
    have r_a5 : v1.cell? ⟨w.heap.size, 5, none⟩ = some (.int .i64 l1) := Ha_1.out.cell 5
    have r_a6 : v1.cell? ⟨w.heap.size, 6, none⟩ = some (.int .i64 l2) := Ha_1.out.cell 6
    have lt_b := Hb_1.out.lt
    have r_b0 : v1.cell? ⟨g1, 0, none⟩ = some (.int .i64 ex) := Hb_1.out.cell 0
    have r_b1 : v1.cell? ⟨g1, 1, none⟩ = some (.int .i64 et) := Hb_1.out.cell 1
    have r_b2 : v1.cell? ⟨g1, 2, none⟩ = some (.int .i64 ec) := Hb_1.out.cell 2
    have r_b3 : v1.cell? ⟨g1, 3, none⟩ = some (.int .i64 es) := Hb_1.out.cell 3
    have r_b4 : v1.cell? ⟨g1, 4, none⟩ = some (.int .i64 ek) := Hb_1.out.cell 4
    have r_b5 : v1.cell? ⟨g1, 5, none⟩ = some (.int .i64 ea) := Hb_1.out.cell 5
    have r_b6 : v1.cell? ⟨g1, 6, none⟩ = some (.int .i64 eb) := Hb_1.out.cell 6
    have r_b7 : v1.cell? ⟨g1, 7, none⟩ = some (.int .i64 eg) := Hb_1.out.cell 7
    have r_b8 : v1.cell? ⟨g1, 8, none⟩ = some (.int .i64 eh) := Hb_1.out.cell 8
    have hv : nextInB i0 t0 l0 l1 l2 pl ql ex et ec es ek ea eb eg eh = false := by unfold nextInB; rw [Hr0.out]; simp
    have HV := Lib.hid hv
    clear hv
    go_wp21
    go_ret
    exact ⟨ret_bool HV.out.symm, f1⟩
  | true =>
    rw [r0] at cc
    have Hr0 := Lib.hid r0
    clear r0
    refine (cc).mono ?_
    rintro e v1 ⟨rfl, b1⟩
    have f1 := bthen f0 b1
    have z1 := b1.size
    have HP_1 := Lib.hid (HP_0.out.below b1)
    have HQ_1 := Lib.hid (HQ_0.out.below b1)
    have Ha_1 := Lib.hid (Ha_0.out.below b1)
    have Hb_1 := Lib.hid (Hb_0.out.below b1)
    clear lt_a r_a0 r_a1 r_a2 r_a3 r_a4 r_a5 r_a6 lt_b r_b0 r_b1 r_b2 r_b3 r_b4 r_b5 r_b6 r_b7 r_b8
    clear HP_0 HQ_0 Ha_0 Hb_0
    have lt_a := Ha_1.out.lt
    have r_a0 : v1.cell? ⟨w.heap.size, 0, none⟩ = some (.int .i64 i0) := Ha_1.out.cell 0
    have r_a1 : v1.cell? ⟨w.heap.size, 1, none⟩ = some (.int .i64 t0) := Ha_1.out.cell 1
    have r_a2 : v1.cell? ⟨w.heap.size, 2, none⟩ = some (.slice A n c) := Ha_1.out.cell 2
    have r_a3 : v1.cell? ⟨w.heap.size, 3, none⟩ = some (.slice B m d) := Ha_1.out.cell 3
    have r_a4 : v1.cell? ⟨w.heap.size, 4, none⟩ = some (.int .i64 l0) := Ha_1.out.cell 4
    have r_a5 : v1.cell? ⟨w.heap.size, 5, none⟩ = some (.int .i64 l1) := Ha_1.out.cell 5
    have r_a6 : v1.cell? ⟨w.heap.size, 6, none⟩ = some (.int .i64 l2) := Ha_1.out.cell 6
    have lt_b := Hb_1.out.lt
    have r_b0 : v1.cell? ⟨g1, 0, none⟩ = some (.int .i64 ex) := Hb_1.out.cell 0
    have r_b1 : v1.cell? ⟨g1, 1, none⟩ = some (.int .i64 et) := Hb_1.out.cell 1
    have r_b2 : v1.cell? ⟨g1, 2, none⟩ = some (.int .i64 ec) := Hb_1.out.cell 2
    have r_b3 : v1.cell? ⟨g1, 3, none⟩ = some (.int .i64 es) := Hb_1.out.cell 3
    have r_b4 : v1.cell? ⟨g1, 4, none⟩ = some (.int .i64 ek) := Hb_1.out.cell 4
    have r_b5 : v1.cell? ⟨g1, 5, none⟩ = some (.int .i64 ea) := Hb_1.out.cell 5
    have r_b6 : v1.cell? ⟨g1, 6, none⟩ = some (.int .i64 eb) := Hb_1.out.cell 6
    have r_b7 : v1.cell? ⟨g1, 7, none⟩ = some (.int .i64 eg) := Hb_1.out.cell 7
    have r_b8 : v1.cell? ⟨g1, 8, none⟩ = some (.int .i64 eh) := Hb_1.out.cell 8
    clear cc
    obtain ⟨hi0, hi1⟩ := stateB_i Hr0.out
    have hx : nextInB i0 t0 l0 l1 l2 pl ql ex et ec es ek ea eb eg eh = nextB i0 t0 ex et ec es ek ea eb eg eh := by unfold nextInB; rw [Hr0.out]; rfl
    have HX := Lib.hid hx
    clear hx
    have cc := specEntryOk_any ex et ec es ek ea eb eg eh v1
    cases r1 : (entryB ex et ec es ek ea eb eg eh) with
    | false =>
      rw [r1] at cc
      have Hr1 := Lib.hid r1
      clear r1
      go_wp2_with fail
      refine (cc).mono ?_
      rintro e v2 ⟨rfl, b2⟩
      have f2 := bthen f1 b2
      have z2 := b2.size
      have HP_2 := Lib.hid (HP_1.out.below b2)
      have HQ_2 := Lib.hid (HQ_1.out.below b2)
      have Ha_2 := Lib.hid (Ha_1.out.below b2)
      have Hb_2 := Lib.hid (Hb_1.out.below b2)
      clear lt_a r_a0 r_a1 r_a2 r_a3 r_a4 r_a5 r_a6 lt_b r_b0 r_b1 r_b2 r_b3 r_b4 r_b5 r_b6 r_b7 r_b8
      clear HP_1 HQ_1 Ha_1 Hb_1
      have lt_a := Ha_2.out.lt
      have r_a0 : v2.cell? ⟨w.heap.size, 0, none⟩ = some (.int .i64 i0) := Ha_2.out.cell 0
      have r_a1 : v2.cell? ⟨w.heap.size, 1, none⟩ = some (.int .i64 t0) := Ha_2.out.cell 1
      have r_a2 : v2.cell? ⟨w.heap.size, 2, none⟩ = some (.slice A n c) := Ha_2.out.cell 2
      have r_a3 : v2.cell? ⟨w.heap.size, 3, none⟩ = some (.slice B m d) := Ha_2.out.cell 3
      have r_a4 : v2.cell? ⟨w.heap.size, 4, none⟩ = some (.int .i64 l0) := Ha_2.out.cell 4
      have r_a5 : v2.cell? ⟨w.heap.size, 5, none⟩ = some (.int .i64 l1) := Ha_2.out.cell 5
      have r_a6 : v2.cell? ⟨w.heap.size, 6, none⟩ = some (.int .i64 l2) := Ha_2.out.cell 6
      have lt_b := Hb_2.out.lt
      have r_b0 : v2.cell? ⟨g1, 0, none⟩ = some (.int .i64 ex) := Hb_2.out.cell 0
      have r_b1 : v2.cell? ⟨g1, 1, none⟩ = some (.int .i64 et) := Hb_2.out.cell 1
      have r_b2 : v2.cell? ⟨g1, 2, none⟩ = some (.int .i64 ec) := Hb_2.out.cell 2
      have r_b3 : v2.cell? ⟨g1, 3, none⟩ = some (.int .i64 es) := Hb_2.out.cell 3
      have r_b4 : v2.cell? ⟨g1, 4, none⟩ = some (.int .i64 ek) := Hb_2.out.cell 4
      have r_b5 : v2.cell? ⟨g1, 5, none⟩ = some (.int .i64 ea) := Hb_2.out.cell 5
      have r_b6 : v2.cell? ⟨g1, 6, none⟩ = some (.int .i64 eb) := Hb_2.out.cell 6
      have r_b7 : v2.cell? ⟨g1, 7, none⟩ = some (.int .i64 eg) := Hb_2.out.cell 7
      have r_b8 : v2.cell? ⟨g1, 8, none⟩ = some (.int .i64 eh) := Hb_2.out.cell 8
      have hv : nextB i0 t0 ex et ec es ek ea eb eg eh = false := by unfold nextB; rw [Hr1.out]; simp
      have HV := Lib.hid hv
      clear hv
      go_wp21
      go_ret
      exact ⟨ret_bool (HX.out.trans HV.out).symm, f2⟩
    | true =>
      rw [r1] at cc
      have Hr1 := Lib.hid r1
      clear r1
      go_wp2_with fail
      refine (cc).mono ?_
      rintro e v2 ⟨rfl, b2⟩
      have f2 := bthen f1 b2
      have z2 := b2.size
      have HP_2 := Lib.hid (HP_1.out.below b2)
      have HQ_2 := Lib.hid (HQ_1.out.below b2)
      have Ha_2 := Lib.hid (Ha_1.out.below b2)
      have Hb_2 := Lib.hid (Hb_1.out.below b2)
      clear lt_a r_a0 r_a1 r_a2 r_a3 r_a4 r_a5 r_a6 lt_b r_b0 r_b1 r_b2 r_b3 r_b4 r_b5 r_b6 r_b7 r_b8
      clear HP_1 HQ_1 Ha_1 Hb_1
      have lt_a := Ha_2.out.lt
      have r_a0 : v2.cell? ⟨w.heap.size, 0, none⟩ = some (.int .i64 i0) := Ha_2.out.cell 0
      have r_a1 : v2.cell? ⟨w.heap.size, 1, none⟩ = some (.int .i64 t0) := Ha_2.out.cell 1
      have r_a2 : v2.cell? ⟨w.heap.size, 2, none⟩ = some (.slice A n c) := Ha_2.out.cell 2
      have r_a3 : v2.cell? ⟨w.heap.size, 3, none⟩ = some (.slice B m d) := Ha_2.out.cell 3
      have r_a4 : v2.cell? ⟨w.heap.size, 4, none⟩ = some (.int .i64 l0) := Ha_2.out.cell 4
      have r_a5 : v2.cell? ⟨w.heap.size, 5, none⟩ = some (.int .i64 l1) := Ha_2.out.cell 5
      have r_a6 : v2.cell? ⟨w.heap.size, 6, none⟩ = some (.int .i64 l2) := Ha_2.out.cell 6
      have lt_b := Hb_2.out.lt
      have r_b0 : v2.cell? ⟨g1, 0, none⟩ = some (.int .i64 ex) := Hb_2.out.cell 0
      have r_b1 : v2.cell? ⟨g1, 1, none⟩ = some (.int .i64 et) := Hb_2.out.cell 1
      have r_b2 : v2.cell? ⟨g1, 2, none⟩ = some (.int .i64 ec) := Hb_2.out.cell 2
      have r_b3 : v2.cell? ⟨g1, 3, none⟩ = some (.int .i64 es) := Hb_2.out.cell 3
      have r_b4 : v2.cell? ⟨g1, 4, none⟩ = some (.int .i64 ek) := Hb_2.out.cell 4
      have r_b5 : v2.cell? ⟨g1, 5, none⟩ = some (.int .i64 ea) := Hb_2.out.cell 5
      have r_b6 : v2.cell? ⟨g1, 6, none⟩ = some (.int .i64 eb) := Hb_2.out.cell 6
      have r_b7 : v2.cell? ⟨g1, 7, none⟩ = some (.int .i64 eg) := Hb_2.out.cell 7
      have r_b8 : v2.cell? ⟨g1, 8, none⟩ = some (.int .i64 eh) := Hb_2.out.cell 8
      clear cc
      cases r2 : (ex == i0 + 1) with
      | false =>
        have Hr2 := Lib.hid r2
        have hv : nextB i0 t0 ex et ec es ek ea eb eg eh = false := by unfold nextB; rw [Hr1.out, Hr2.out]; simp
        have HV := Lib.hid hv
        clear hv
        go_wp21
        go_ret
        exact ⟨ret_bool (HX.out.trans HV.out).symm, f2⟩
      | true =>
        have Hr2 : Hid ((ex == i0 + 1) = true) := r2
        cases r3 : (decide (t0 ≤ et)) with
        | false =>
          have Hr3 := Lib.hid r3
          have hle : et < t0 := by have := of_decide_eq_false r3; omega
          have hv : nextB i0 t0 ex et ec es ek ea eb eg eh = false := by unfold nextB; rw [Hr1.out, Hr2.out, Hr3.out]; simp
          have HV := Lib.hid hv
          clear hv
          go_wp21
          go_ret
          exact ⟨ret_bool (HX.out.trans HV.out).symm, f2⟩
        | true =>
          have Hr3 : Hid ((decide (t0 ≤ et)) = true) := r3
          have hle : t0 ≤ et := of_decide_eq_true r3
          have hv : nextB i0 t0 ex et ec es ek ea eb eg eh = true := by unfold nextB; rw [Hr1.out, Hr2.out, Hr3.out]; rfl
          have HV := Lib.hid hv
          clear hv
          go_wp21
          go_ret
          exact ⟨ret_bool (HX.out.trans HV.out).symm, f2⟩
end Go.Proofs.YtokklkmibjpjnaaGreat
namespace Go.Proofs.YtokklkmibjpjnaaGreat
set_option linter.unusedSimpArgs false
set_option linter.unusedVariables false
attribute [local go_sem] n_lt2 n_lt3 n_lt4 n_le2 n_le3
open Go.RowKit
def firesB (l0 l1 l2 : Int) (ql : List Jb) (et ec ek ea eb : Int) : Bool := (ek == 4) && ((jobAtV ql ea).2 && (((jobAtV ql ea).1.f == 0) && (decide ((jobAtV ql ea).1.d ≤ et) && holdsB l0 l1 l2 ec eb et)))
def firesInB (i0 t0 l0 l1 l2 : Int) (pl : List Pr) (ql : List Jb) (ex et ec es ek ea eb eg eh : Int) : Bool := nextInB i0 t0 l0 l1 l2 pl ql ex et ec es ek ea eb eg eh && firesB l0 l1 l2 ql et ec ek ea eb
theorem firesB_at {l0 l1 l2 : Int} {ql : List Jb} {et ec ek ea eb : Int} {ji jd jk jv jf : Int} {ok : Bool} (hk : (ek == 4) = true) (hj : jobAtV ql ea = (⟨ji, jd, jk, jv, jf⟩, ok)) :
    firesB l0 l1 l2 ql et ec ek ea eb = (ok && ((jf == 0) && (decide (jd ≤ et) && holdsB l0 l1 l2 ec eb et))) := by
  unfold firesB; rw [hj, hk]; rfl
theorem nextInB_jobs {i0 t0 l0 l1 l2 : Int} {pl : List Pr} {ql : List Jb} {ex et ec es ek ea eb eg eh : Int} (h : nextInB i0 t0 l0 l1 l2 pl ql ex et ec es ek ea eb eg eh = true) : jobsB ql = true := by
  unfold nextInB stateB at h
  simp only [Bool.and_eq_true] at h
  exact h.1.2.2.2.1
attribute [local go_sem] Ext.cell Ext.frozen
theorem jopen_any (a b c d e : Int) (w : World) :
    Calls Tryz.prog 119 #[.agg #[.int .i64 a, .int .i64 b, .int .i64 c, .int .i64 d, .int .i64 e]] w fun e' w' => e' = .returned (.bool (e == 0)) ∧ Below w.heap.size w w' := by
  go_enter Tryz.func119, Tryz.ntmps119
  go_wp2
  go_ret
  exact ⟨rfl, by (repeat' (first | (with_reducible exact Below.refl _ _) | (with_reducible assumption) | (with_reducible refine Below.alloc ?_ ?_ _) | (with_reducible refine Below.drew ?_) | (with_reducible refine Below.setCell ?_ ?_ _) | (with_reducible refine bstep (by assumption) ?_ ?_) | (with_reducible exact Nat.le_refl _) | omega | (simp [*]; done) | (simp [*]; omega)))⟩
set_option maxRecDepth 100000 in
set_option maxHeartbeats 2000000 in
theorem fires_any (A : Option Addr) (n c : Nat) (B : Option Addr) (m d : Nat) (i0 t0 l0 l1 l2 : Int) (ql : List Jb) (ex et ec es ek ea eb eg eh : Int) (w : World) (hQ : Sl w 5 B m (JB ql)) (hr : ql.length = m) (hm : m ≤ maxLen) :
    Calls Tryz.prog 104 #[.agg #[.int .i64 i0, .int .i64 t0, .slice A n c, .slice B m d, .int .i64 l0, .int .i64 l1, .int .i64 l2], .agg #[.int .i64 ex, .int .i64 et, .int .i64 ec, .int .i64 es, .int .i64 ek, .int .i64 ea, .int .i64 eb, .int .i64 eg, .int .i64 eh]] w fun e' w' => e' = .returned (.bool (firesB l0 l1 l2 ql et ec ek ea eb)) ∧ Below w.heap.size w w' := by
  have hR := Lib.hid hr
  have HQ := Lib.hid hQ
  clear hQ hr
  cases q1 : (ek == 4) with
  | false =>
    have HV := Lib.hid (show firesB l0 l1 l2 ql et ec ek ea eb = false by unfold firesB; rw [q1]; rfl)
    have n1 : (ek != 4) = true := by rw [bne, q1]; rfl
    go_enter Tryz.func104, Tryz.ntmps104
    go_wp21
    go_ret
    exact ⟨ret_bool HV.out.symm, by (repeat' (first | (with_reducible exact Below.refl _ _) | (with_reducible assumption) | (with_reducible refine Below.alloc ?_ ?_ _) | (with_reducible refine Below.drew ?_) | (with_reducible refine Below.setCell ?_ ?_ _) | (with_reducible refine bstep (by assumption) ?_ ?_) | (with_reducible exact Nat.le_refl _) | omega | (simp [*]; done) | (simp [*]; omega)))⟩
  | true =>
    have n1 : (ek != 4) = false := by rw [bne, q1]; rfl
    have HK := Lib.hid q1
    go_enter Tryz.func104, Tryz.ntmps104
    go_wp2_with fail
    refine calls_named ?_
    rintro v0 hv0
    have f0 : Below w.heap.size w v0 := by rw [hv0]; (repeat' (first | (with_reducible exact Below.refl _ _) | (with_reducible assumption) | (with_reducible refine Below.alloc ?_ ?_ _) | (with_reducible refine Below.drew ?_) | (with_reducible refine Below.setCell ?_ ?_ _) | (with_reducible refine bstep (by assumption) ?_ ?_) | (with_reducible exact Nat.le_refl _) | omega | (simp [*]; done) | (simp [*]; omega)))
    have z0 : w.heap.size + 2 ≤ v0.heap.size := by rw [hv0]; simp [size_set]
    have HQ_0 := Lib.hid (HQ.out.below f0)
    have HQ_lt := Lib.hid (fun hn => HQ.out.lt hn)
    have Ha_0 : Hid (Blk v0 w.heap.size 37 #[.int .i64 i0, .int .i64 t0, .slice A n c, .slice B m d, .int .i64 l0, .int .i64 l1, .int .i64 l2]) := by rw [hv0]; exact (Blk.new_at _ _ _ _ (by simp)).alloc _
    have Hb_0 : Hid (Blk v0 (w.heap.size + 1) 43 #[.int .i64 ex, .int .i64 et, .int .i64 ec, .int .i64 es, .int .i64 ek, .int .i64 ea, .int .i64 eb, .int .i64 eg, .int .i64 eh]) := by rw [hv0]; exact Blk.new_at _ _ _ _ (by simp)
    clear hv0
    generalize hg1 : w.heap.size + 1 = g1 at *
    have lg1 : w.heap.size < g1 := by omega
    have lgz : g1 < v0.heap.size := by omega
    have nq1x0 : ¬ g1 = w.heap.size := by omega
    have nq0x1 : ¬ w.heap.size = g1 := by omega
    clear hg1
    have lt_a := Ha_0.out.lt
    have r_a0 : v0.cell? ⟨w.heap.size, 0, none⟩ = some (.int .i64 i0) := Ha_0.out.cell 0
    have r_a1 : v0.cell? ⟨w.heap.size, 1, none⟩ = some (.int .i64 t0) := Ha_0.out.cell 1
    have r_a2 : v0.cell? ⟨w.heap.size, 2, none⟩ = some (.slice A n c) := Ha_0.out.cell 2
    have r_a3 : v0.cell? ⟨w.heap.size, 3, none⟩ = some (.slice B m d) := Ha_0.out.cell 3
    have r_a4 : v0.cell? ⟨w.heap.size, 4, none⟩ = some (.int .i64 l0) := Ha_0.out.cell 4
    have r_a5 : v0.cell? ⟨w.heap.size, 5, none⟩ = some (.int .i64 l1) := Ha_0.out.cell 5
    have r_a6 : v0.cell? ⟨w.heap.size, 6, none⟩ = some (.int .i64 l2) := Ha_0.out.cell 6
    have lt_b := Hb_0.out.lt
    have r_b0 : v0.cell? ⟨g1, 0, none⟩ = some (.int .i64 ex) := Hb_0.out.cell 0
    have r_b1 : v0.cell? ⟨g1, 1, none⟩ = some (.int .i64 et) := Hb_0.out.cell 1
    have r_b2 : v0.cell? ⟨g1, 2, none⟩ = some (.int .i64 ec) := Hb_0.out.cell 2
    have r_b3 : v0.cell? ⟨g1, 3, none⟩ = some (.int .i64 es) := Hb_0.out.cell 3
    have r_b4 : v0.cell? ⟨g1, 4, none⟩ = some (.int .i64 ek) := Hb_0.out.cell 4
    have r_b5 : v0.cell? ⟨g1, 5, none⟩ = some (.int .i64 ea) := Hb_0.out.cell 5
    have r_b6 : v0.cell? ⟨g1, 6, none⟩ = some (.int .i64 eb) := Hb_0.out.cell 6
    have r_b7 : v0.cell? ⟨g1, 7, none⟩ = some (.int .i64 eg) := Hb_0.out.cell 7
    have r_b8 : v0.cell? ⟨g1, 8, none⟩ = some (.int .i64 eh) := Hb_0.out.cell 8
    have cc := jobAtV_any B m d ql ea v0 HQ_0.out hR.out hm
    obtain ⟨J, hj⟩ : ∃ J, J = jobAtV ql ea := ⟨_, rfl⟩
    rw [← hj] at cc
    obtain ⟨⟨ji, jd, jk, jv, jf⟩, ok⟩ := J
    have HE := Lib.hid (firesB_at (l0 := l0) (l1 := l1) (l2 := l2) (et := et) (ec := ec) (eb := eb) HK.out hj.symm)
    clear hj
    dsimp only at cc
    cases ok with
    | false =>
      refine (cc).mono ?_
      rintro e v1 ⟨rfl, b1⟩
      have f1 := bthen f0 b1
      have z1 := b1.size
      have HQ_1 := Lib.hid (HQ_0.out.below b1)
      have Ha_1 := Lib.hid (Ha_0.out.below b1)
      have Hb_1 := Lib.hid (Hb_0.out.below b1)
      clear lt_a r_a0 r_a1 r_a2 r_a3 r_a4 r_a5 r_a6 lt_b r_b0 r_b1 r_b2 r_b3 r_b4 r_b5 r_b6 r_b7 r_b8
      clear HQ_0 Ha_0 Hb_0
      have lt_a := Ha_1.out.lt
      have r_a0 : v1.cell? ⟨w.heap.size, 0, none⟩ = some (.int .i64 i0) := Ha_1.out.cell 0
      have r_a1 : v1.cell? ⟨w.heap.size, 1, none⟩ = some (.int .i64 t0) := Ha_1.out.cell 1
      have r_a2 : v1.cell? ⟨w.heap.size, 2, none⟩ = some (.slice A n c) := Ha_1.out.cell 2
      have r_a3 : v1.cell? ⟨w.heap.size, 3, none⟩ = some (.slice B m d) := Ha_1.out.cell 3
      have r_a4 : v1.cell? ⟨w.heap.size, 4, none⟩ = some (.int .i64 l0) := Ha_1.out.cell 4
      have r_a5 : v1.cell? ⟨w.heap.size, 5, none⟩ = some (.int .i64 l1) := Ha_1.out.cell 5
      have r_a6 : v1.cell? ⟨w.heap.size, 6, none⟩ = some (.int .i64 l2) := Ha_1.out.cell 6
      have lt_b := Hb_1.out.lt
      have r_b0 : v1.cell? ⟨g1, 0, none⟩ = some (.int .i64 ex) := Hb_1.out.cell 0
      have r_b1 : v1.cell? ⟨g1, 1, none⟩ = some (.int .i64 et) := Hb_1.out.cell 1
      have r_b2 : v1.cell? ⟨g1, 2, none⟩ = some (.int .i64 ec) := Hb_1.out.cell 2
      have r_b3 : v1.cell? ⟨g1, 3, none⟩ = some (.int .i64 es) := Hb_1.out.cell 3
      have r_b4 : v1.cell? ⟨g1, 4, none⟩ = some (.int .i64 ek) := Hb_1.out.cell 4
      have r_b5 : v1.cell? ⟨g1, 5, none⟩ = some (.int .i64 ea) := Hb_1.out.cell 5
      have r_b6 : v1.cell? ⟨g1, 6, none⟩ = some (.int .i64 eb) := Hb_1.out.cell 6
      have r_b7 : v1.cell? ⟨g1, 7, none⟩ = some (.int .i64 eg) := Hb_1.out.cell 7
      have r_b8 : v1.cell? ⟨g1, 8, none⟩ = some (.int .i64 eh) := Hb_1.out.cell 8
      have HV := Lib.hid (show firesB l0 l1 l2 ql et ec ek ea eb = false from HE.out.trans (by simp))
      go_wp21
      go_ret
      exact ⟨ret_bool HV.out.symm, f1.alloc f1.size _⟩
    | true =>
      refine (cc).mono ?_
      rintro e v1 ⟨rfl, b1⟩
      have f1 := bthen f0 b1
      have z1 := b1.size
      have HQ_1 := Lib.hid (HQ_0.out.below b1)
      have Ha_1 := Lib.hid (Ha_0.out.below b1)
      have Hb_1 := Lib.hid (Hb_0.out.below b1)
      clear lt_a r_a0 r_a1 r_a2 r_a3 r_a4 r_a5 r_a6 lt_b r_b0 r_b1 r_b2 r_b3 r_b4 r_b5 r_b6 r_b7 r_b8
      clear HQ_0 Ha_0 Hb_0
      clear cc
      have lt_a := Ha_1.out.lt
      have r_a0 : v1.cell? ⟨w.heap.size, 0, none⟩ = some (.int .i64 i0) := Ha_1.out.cell 0
      have r_a1 : v1.cell? ⟨w.heap.size, 1, none⟩ = some (.int .i64 t0) := Ha_1.out.cell 1
      have r_a2 : v1.cell? ⟨w.heap.size, 2, none⟩ = some (.slice A n c) := Ha_1.out.cell 2
      have r_a3 : v1.cell? ⟨w.heap.size, 3, none⟩ = some (.slice B m d) := Ha_1.out.cell 3
      have r_a4 : v1.cell? ⟨w.heap.size, 4, none⟩ = some (.int .i64 l0) := Ha_1.out.cell 4
      have r_a5 : v1.cell? ⟨w.heap.size, 5, none⟩ = some (.int .i64 l1) := Ha_1.out.cell 5
      have r_a6 : v1.cell? ⟨w.heap.size, 6, none⟩ = some (.int .i64 l2) := Ha_1.out.cell 6
      have lt_b := Hb_1.out.lt
      have r_b0 : v1.cell? ⟨g1, 0, none⟩ = some (.int .i64 ex) := Hb_1.out.cell 0
      have r_b1 : v1.cell? ⟨g1, 1, none⟩ = some (.int .i64 et) := Hb_1.out.cell 1
      have r_b2 : v1.cell? ⟨g1, 2, none⟩ = some (.int .i64 ec) := Hb_1.out.cell 2
      have r_b3 : v1.cell? ⟨g1, 3, none⟩ = some (.int .i64 es) := Hb_1.out.cell 3
      have r_b4 : v1.cell? ⟨g1, 4, none⟩ = some (.int .i64 ek) := Hb_1.out.cell 4
      have r_b5 : v1.cell? ⟨g1, 5, none⟩ = some (.int .i64 ea) := Hb_1.out.cell 5
      have r_b6 : v1.cell? ⟨g1, 6, none⟩ = some (.int .i64 eb) := Hb_1.out.cell 6
      have r_b7 : v1.cell? ⟨g1, 7, none⟩ = some (.int .i64 eg) := Hb_1.out.cell 7
      have r_b8 : v1.cell? ⟨g1, 8, none⟩ = some (.int .i64 eh) := Hb_1.out.cell 8
      cases s1 : (jf == 0) with
      | false =>
        have HE2 := Lib.hid (HE.out.trans (show _ = false by rw [s1]; simp))
        go_wp2_with fail
        refine calls_named ?_
        rintro v2 hv2
        have f2 : Below w.heap.size w v2 := by rw [hv2]; (repeat' (first | (with_reducible exact Below.refl _ _) | (with_reducible assumption) | (with_reducible refine Below.alloc ?_ ?_ _) | (with_reducible refine Below.drew ?_) | (with_reducible refine Below.setCell ?_ ?_ _) | (with_reducible refine bstep (by assumption) ?_ ?_) | (with_reducible exact Nat.le_refl _) | omega | (simp [*]; done) | (simp [*]; omega)))
        have z2 : v1.heap.size + 1 ≤ v2.heap.size := by rw [hv2]; simp [size_set]
        have HQ_2 : Hid (Sl v2 5 B m (JB ql)) := by rw [hv2]; exact (HQ_1.out).alloc _
        have Ha_2 : Hid (Blk v2 w.heap.size 37 #[.int .i64 i0, .int .i64 t0, .slice A n c, .slice B m d, .int .i64 l0, .int .i64 l1, .int .i64 l2]) := by rw [hv2]; exact (Ha_1.out).alloc _
        have Hb_2 : Hid (Blk v2 g1 43 #[.int .i64 ex, .int .i64 et, .int .i64 ec, .int .i64 es, .int .i64 ek, .int .i64 ea, .int .i64 eb, .int .i64 eg, .int .i64 eh]) := by rw [hv2]; exact (Hb_1.out).alloc _
        have Hj_2 : Hid (Blk v2 v1.heap.size 71 #[.int .i64 ji, .int .i64 jd, .int .i64 jk, .int .i64 jv, .int .i64 jf]) := by rw [hv2]; exact (Blk.new_at _ _ _ _ (by simp [size_set]))
        clear lt_a r_a0 r_a1 r_a2 r_a3 r_a4 r_a5 r_a6 lt_b r_b0 r_b1 r_b2 r_b3 r_b4 r_b5 r_b6 r_b7 r_b8
        clear hv2 HQ_1 Ha_1 Hb_1
        have lt_a := Ha_2.out.lt
        have r_a0 : v2.cell? ⟨w.heap.size, 0, none⟩ = some (.int .i64 i0) := Ha_2.out.cell 0
        have r_a1 : v2.cell? ⟨w.heap.size, 1, none⟩ = some (.int .i64 t0) := Ha_2.out.cell 1
        have r_a2 : v2.cell? ⟨w.heap.size, 2, none⟩ = some (.slice A n c) := Ha_2.out.cell 2
        have r_a3 : v2.cell? ⟨w.heap.size, 3, none⟩ = some (.slice B m d) := Ha_2.out.cell 3
        have r_a4 : v2.cell? ⟨w.heap.size, 4, none⟩ = some (.int .i64 l0) := Ha_2.out.cell 4
        have r_a5 : v2.cell? ⟨w.heap.size, 5, none⟩ = some (.int .i64 l1) := Ha_2.out.cell 5
        have r_a6 : v2.cell? ⟨w.heap.size, 6, none⟩ = some (.int .i64 l2) := Ha_2.out.cell 6
        have lt_b := Hb_2.out.lt
        have r_b0 : v2.cell? ⟨g1, 0, none⟩ = some (.int .i64 ex) := Hb_2.out.cell 0
        have r_b1 : v2.cell? ⟨g1, 1, none⟩ = some (.int .i64 et) := Hb_2.out.cell 1
        have r_b2 : v2.cell? ⟨g1, 2, none⟩ = some (.int .i64 ec) := Hb_2.out.cell 2
        have r_b3 : v2.cell? ⟨g1, 3, none⟩ = some (.int .i64 es) := Hb_2.out.cell 3
        have r_b4 : v2.cell? ⟨g1, 4, none⟩ = some (.int .i64 ek) := Hb_2.out.cell 4
        have r_b5 : v2.cell? ⟨g1, 5, none⟩ = some (.int .i64 ea) := Hb_2.out.cell 5
        have r_b6 : v2.cell? ⟨g1, 6, none⟩ = some (.int .i64 eb) := Hb_2.out.cell 6
        have r_b7 : v2.cell? ⟨g1, 7, none⟩ = some (.int .i64 eg) := Hb_2.out.cell 7
        have r_b8 : v2.cell? ⟨g1, 8, none⟩ = some (.int .i64 eh) := Hb_2.out.cell 8
        have lt_j := Hj_2.out.lt
        have r_j0 : v2.cell? ⟨v1.heap.size, 0, none⟩ = some (.int .i64 ji) := Hj_2.out.cell 0
        have r_j1 : v2.cell? ⟨v1.heap.size, 1, none⟩ = some (.int .i64 jd) := Hj_2.out.cell 1
        have r_j2 : v2.cell? ⟨v1.heap.size, 2, none⟩ = some (.int .i64 jk) := Hj_2.out.cell 2
        have r_j3 : v2.cell? ⟨v1.heap.size, 3, none⟩ = some (.int .i64 jv) := Hj_2.out.cell 3
        have r_j4 : v2.cell? ⟨v1.heap.size, 4, none⟩ = some (.int .i64 jf) := Hj_2.out.cell 4
        have co := jopen_any ji jd jk jv jf v2
        rw [s1] at co
        clear s1
        refine (co).mono ?_
        rintro e v3 ⟨rfl, b3⟩
        have f3 := bthen f2 b3
        have z3 := b3.size
        have HQ_3 := Lib.hid (HQ_2.out.below b3)
        have Ha_3 := Lib.hid (Ha_2.out.below b3)
        have Hb_3 := Lib.hid (Hb_2.out.below b3)
        have Hj_3 := Lib.hid (Hj_2.out.below b3)
        clear lt_a r_a0 r_a1 r_a2 r_a3 r_a4 r_a5 r_a6 lt_b r_b0 r_b1 r_b2 r_b3 r_b4 r_b5 r_b6 r_b7 r_b8 lt_j r_j0 r_j1 r_j2 r_j3 r_j4
        clear HQ_2 Ha_2 Hb_2 Hj_2
        have lt_a := Ha_3.out.lt
        have r_a0 : v3.cell? ⟨w.heap.size, 0, none⟩ = some (.int .i64 i0) := Ha_3.out.cell 0
        have r_a1 : v3.cell? ⟨w.heap.size, 1, none⟩ = some (.int .i64 t0) := Ha_3.out.cell 1
        have r_a2 : v3.cell? ⟨w.heap.size, 2, none⟩ = some (.slice A n c) := Ha_3.out.cell 2
        have r_a3 : v3.cell? ⟨w.heap.size, 3, none⟩ = some (.slice B m d) := Ha_3.out.cell 3
        have r_a4 : v3.cell? ⟨w.heap.size, 4, none⟩ = some (.int .i64 l0) := Ha_3.out.cell 4
        have r_a5 : v3.cell? ⟨w.heap.size, 5, none⟩ = some (.int .i64 l1) := Ha_3.out.cell 5
        have r_a6 : v3.cell? ⟨w.heap.size, 6, none⟩ = some (.int .i64 l2) := Ha_3.out.cell 6
        have lt_b := Hb_3.out.lt
        have r_b0 : v3.cell? ⟨g1, 0, none⟩ = some (.int .i64 ex) := Hb_3.out.cell 0
        have r_b1 : v3.cell? ⟨g1, 1, none⟩ = some (.int .i64 et) := Hb_3.out.cell 1
        have r_b2 : v3.cell? ⟨g1, 2, none⟩ = some (.int .i64 ec) := Hb_3.out.cell 2
        have r_b3 : v3.cell? ⟨g1, 3, none⟩ = some (.int .i64 es) := Hb_3.out.cell 3
        have r_b4 : v3.cell? ⟨g1, 4, none⟩ = some (.int .i64 ek) := Hb_3.out.cell 4
        have r_b5 : v3.cell? ⟨g1, 5, none⟩ = some (.int .i64 ea) := Hb_3.out.cell 5
        have r_b6 : v3.cell? ⟨g1, 6, none⟩ = some (.int .i64 eb) := Hb_3.out.cell 6
        have r_b7 : v3.cell? ⟨g1, 7, none⟩ = some (.int .i64 eg) := Hb_3.out.cell 7
        have r_b8 : v3.cell? ⟨g1, 8, none⟩ = some (.int .i64 eh) := Hb_3.out.cell 8
        have lt_j := Hj_3.out.lt
        have r_j0 : v3.cell? ⟨v1.heap.size, 0, none⟩ = some (.int .i64 ji) := Hj_3.out.cell 0
        have r_j1 : v3.cell? ⟨v1.heap.size, 1, none⟩ = some (.int .i64 jd) := Hj_3.out.cell 1
        have r_j2 : v3.cell? ⟨v1.heap.size, 2, none⟩ = some (.int .i64 jk) := Hj_3.out.cell 2
        have r_j3 : v3.cell? ⟨v1.heap.size, 3, none⟩ = some (.int .i64 jv) := Hj_3.out.cell 3
        have r_j4 : v3.cell? ⟨v1.heap.size, 4, none⟩ = some (.int .i64 jf) := Hj_3.out.cell 4
        have HV := Lib.hid (show firesB l0 l1 l2 ql et ec ek ea eb = false from HE2.out)
        go_wp21
        go_ret
        exact ⟨ret_bool HV.out.symm, f3⟩
      | true =>
        go_wp2_with fail
        refine calls_named ?_
        rintro v2 hv2
        have f2 : Below w.heap.size w v2 := by rw [hv2]; (repeat' (first | (with_reducible exact Below.refl _ _) | (with_reducible assumption) | (with_reducible refine Below.alloc ?_ ?_ _) | (with_reducible refine Below.drew ?_) | (with_reducible refine Below.setCell ?_ ?_ _) | (with_reducible refine bstep (by assumption) ?_ ?_) | (with_reducible exact Nat.le_refl _) | omega | (simp [*]; done) | (simp [*]; omega)))
        have z2 : v1.heap.size + 1 ≤ v2.heap.size := by rw [hv2]; simp [size_set]
        have HQ_2 : Hid (Sl v2 5 B m (JB ql)) := by rw [hv2]; exact (HQ_1.out).alloc _
        have Ha_2 : Hid (Blk v2 w.heap.size 37 #[.int .i64 i0, .int .i64 t0, .slice A n c, .slice B m d, .int .i64 l0, .int .i64 l1, .int .i64 l2]) := by rw [hv2]; exact (Ha_1.out).alloc _
        have Hb_2 : Hid (Blk v2 g1 43 #[.int .i64 ex, .int .i64 et, .int .i64 ec, .int .i64 es, .int .i64 ek, .int .i64 ea, .int .i64 eb, .int .i64 eg, .int .i64 eh]) := by rw [hv2]; exact (Hb_1.out).alloc _
        have Hj_2 : Hid (Blk v2 v1.heap.size 71 #[.int .i64 ji, .int .i64 jd, .int .i64 jk, .int .i64 jv, .int .i64 jf]) := by rw [hv2]; exact (Blk.new_at _ _ _ _ (by simp [size_set]))
        clear lt_a r_a0 r_a1 r_a2 r_a3 r_a4 r_a5 r_a6 lt_b r_b0 r_b1 r_b2 r_b3 r_b4 r_b5 r_b6 r_b7 r_b8
        clear hv2 HQ_1 Ha_1 Hb_1
        have lt_a := Ha_2.out.lt
        have r_a0 : v2.cell? ⟨w.heap.size, 0, none⟩ = some (.int .i64 i0) := Ha_2.out.cell 0
        have r_a1 : v2.cell? ⟨w.heap.size, 1, none⟩ = some (.int .i64 t0) := Ha_2.out.cell 1
        have r_a2 : v2.cell? ⟨w.heap.size, 2, none⟩ = some (.slice A n c) := Ha_2.out.cell 2
        have r_a3 : v2.cell? ⟨w.heap.size, 3, none⟩ = some (.slice B m d) := Ha_2.out.cell 3
        have r_a4 : v2.cell? ⟨w.heap.size, 4, none⟩ = some (.int .i64 l0) := Ha_2.out.cell 4
        have r_a5 : v2.cell? ⟨w.heap.size, 5, none⟩ = some (.int .i64 l1) := Ha_2.out.cell 5
        have r_a6 : v2.cell? ⟨w.heap.size, 6, none⟩ = some (.int .i64 l2) := Ha_2.out.cell 6
        have lt_b := Hb_2.out.lt
        have r_b0 : v2.cell? ⟨g1, 0, none⟩ = some (.int .i64 ex) := Hb_2.out.cell 0
        have r_b1 : v2.cell? ⟨g1, 1, none⟩ = some (.int .i64 et) := Hb_2.out.cell 1
        have r_b2 : v2.cell? ⟨g1, 2, none⟩ = some (.int .i64 ec) := Hb_2.out.cell 2
        have r_b3 : v2.cell? ⟨g1, 3, none⟩ = some (.int .i64 es) := Hb_2.out.cell 3
        have r_b4 : v2.cell? ⟨g1, 4, none⟩ = some (.int .i64 ek) := Hb_2.out.cell 4
        have r_b5 : v2.cell? ⟨g1, 5, none⟩ = some (.int .i64 ea) := Hb_2.out.cell 5
        have r_b6 : v2.cell? ⟨g1, 6, none⟩ = some (.int .i64 eb) := Hb_2.out.cell 6
        have r_b7 : v2.cell? ⟨g1, 7, none⟩ = some (.int .i64 eg) := Hb_2.out.cell 7
        have r_b8 : v2.cell? ⟨g1, 8, none⟩ = some (.int .i64 eh) := Hb_2.out.cell 8
        have lt_j := Hj_2.out.lt
        have r_j0 : v2.cell? ⟨v1.heap.size, 0, none⟩ = some (.int .i64 ji) := Hj_2.out.cell 0
        have r_j1 : v2.cell? ⟨v1.heap.size, 1, none⟩ = some (.int .i64 jd) := Hj_2.out.cell 1
        have r_j2 : v2.cell? ⟨v1.heap.size, 2, none⟩ = some (.int .i64 jk) := Hj_2.out.cell 2
        have r_j3 : v2.cell? ⟨v1.heap.size, 3, none⟩ = some (.int .i64 jv) := Hj_2.out.cell 3
        have r_j4 : v2.cell? ⟨v1.heap.size, 4, none⟩ = some (.int .i64 jf) := Hj_2.out.cell 4
        have co := jopen_any ji jd jk jv jf v2
        rw [s1] at co
        have S1 := Lib.hid s1
        clear s1
        refine (co).mono ?_
        rintro e v3 ⟨rfl, b3⟩
        have f3 := bthen f2 b3
        have z3 := b3.size
        have HQ_3 := Lib.hid (HQ_2.out.below b3)
        have Ha_3 := Lib.hid (Ha_2.out.below b3)
        have Hb_3 := Lib.hid (Hb_2.out.below b3)
        have Hj_3 := Lib.hid (Hj_2.out.below b3)
        clear lt_a r_a0 r_a1 r_a2 r_a3 r_a4 r_a5 r_a6 lt_b r_b0 r_b1 r_b2 r_b3 r_b4 r_b5 r_b6 r_b7 r_b8 lt_j r_j0 r_j1 r_j2 r_j3 r_j4
        clear HQ_2 Ha_2 Hb_2 Hj_2
        clear co
        have lt_a := Ha_3.out.lt
        have r_a0 : v3.cell? ⟨w.heap.size, 0, none⟩ = some (.int .i64 i0) := Ha_3.out.cell 0
        have r_a1 : v3.cell? ⟨w.heap.size, 1, none⟩ = some (.int .i64 t0) := Ha_3.out.cell 1
        have r_a2 : v3.cell? ⟨w.heap.size, 2, none⟩ = some (.slice A n c) := Ha_3.out.cell 2
        have r_a3 : v3.cell? ⟨w.heap.size, 3, none⟩ = some (.slice B m d) := Ha_3.out.cell 3
        have r_a4 : v3.cell? ⟨w.heap.size, 4, none⟩ = some (.int .i64 l0) := Ha_3.out.cell 4
        have r_a5 : v3.cell? ⟨w.heap.size, 5, none⟩ = some (.int .i64 l1) := Ha_3.out.cell 5
        have r_a6 : v3.cell? ⟨w.heap.size, 6, none⟩ = some (.int .i64 l2) := Ha_3.out.cell 6
        have lt_b := Hb_3.out.lt
        have r_b0 : v3.cell? ⟨g1, 0, none⟩ = some (.int .i64 ex) := Hb_3.out.cell 0
        have r_b1 : v3.cell? ⟨g1, 1, none⟩ = some (.int .i64 et) := Hb_3.out.cell 1
        have r_b2 : v3.cell? ⟨g1, 2, none⟩ = some (.int .i64 ec) := Hb_3.out.cell 2
        have r_b3 : v3.cell? ⟨g1, 3, none⟩ = some (.int .i64 es) := Hb_3.out.cell 3
        have r_b4 : v3.cell? ⟨g1, 4, none⟩ = some (.int .i64 ek) := Hb_3.out.cell 4
        have r_b5 : v3.cell? ⟨g1, 5, none⟩ = some (.int .i64 ea) := Hb_3.out.cell 5
        have r_b6 : v3.cell? ⟨g1, 6, none⟩ = some (.int .i64 eb) := Hb_3.out.cell 6
        have r_b7 : v3.cell? ⟨g1, 7, none⟩ = some (.int .i64 eg) := Hb_3.out.cell 7
        have r_b8 : v3.cell? ⟨g1, 8, none⟩ = some (.int .i64 eh) := Hb_3.out.cell 8
        have lt_j := Hj_3.out.lt
        have r_j0 : v3.cell? ⟨v1.heap.size, 0, none⟩ = some (.int .i64 ji) := Hj_3.out.cell 0
        have r_j1 : v3.cell? ⟨v1.heap.size, 1, none⟩ = some (.int .i64 jd) := Hj_3.out.cell 1
        have r_j2 : v3.cell? ⟨v1.heap.size, 2, none⟩ = some (.int .i64 jk) := Hj_3.out.cell 2
        have r_j3 : v3.cell? ⟨v1.heap.size, 3, none⟩ = some (.int .i64 jv) := Hj_3.out.cell 3
        have r_j4 : v3.cell? ⟨v1.heap.size, 4, none⟩ = some (.int .i64 jf) := Hj_3.out.cell 4
        by_cases s2 : jd ≤ et
        rotate_left
        · have s3 : et < jd := by omega
          have HE2 := Lib.hid (HE.out.trans (show _ = false by rw [decide_eq_false s2]; simp))
          have HV := Lib.hid (show firesB l0 l1 l2 ql et ec ek ea eb = false from HE2.out)
          go_wp21
          go_ret
          exact ⟨ret_bool HV.out.symm, f3⟩
        have HE2 := Lib.hid (HE.out.trans (show _ = holdsB l0 l1 l2 ec eb et by rw [S1.out, decide_eq_true s2]; rfl))
        have ch := HoldsAt_any l0 l1 l2 ec eb et v3
        generalize holdsB l0 l1 l2 ec eb et = q at ch HE2
        go_wp2_with fail
        refine (ch).mono ?_
        rintro e v4 ⟨rfl, b4⟩
        have f4 := bthen f3 b4
        have z4 := b4.size
        have HQ_4 := Lib.hid (HQ_3.out.below b4)
        have Ha_4 := Lib.hid (Ha_3.out.below b4)
        have Hb_4 := Lib.hid (Hb_3.out.below b4)
        have Hj_4 := Lib.hid (Hj_3.out.below b4)
        clear lt_a r_a0 r_a1 r_a2 r_a3 r_a4 r_a5 r_a6 lt_b r_b0 r_b1 r_b2 r_b3 r_b4 r_b5 r_b6 r_b7 r_b8 lt_j r_j0 r_j1 r_j2 r_j3 r_j4
        clear HQ_3 Ha_3 Hb_3 Hj_3
        clear ch
        have lt_a := Ha_4.out.lt
        have r_a0 : v4.cell? ⟨w.heap.size, 0, none⟩ = some (.int .i64 i0) := Ha_4.out.cell 0
        have r_a1 : v4.cell? ⟨w.heap.size, 1, none⟩ = some (.int .i64 t0) := Ha_4.out.cell 1
        have r_a2 : v4.cell? ⟨w.heap.size, 2, none⟩ = some (.slice A n c) := Ha_4.out.cell 2
        have r_a3 : v4.cell? ⟨w.heap.size, 3, none⟩ = some (.slice B m d) := Ha_4.out.cell 3
        have r_a4 : v4.cell? ⟨w.heap.size, 4, none⟩ = some (.int .i64 l0) := Ha_4.out.cell 4
        have r_a5 : v4.cell? ⟨w.heap.size, 5, none⟩ = some (.int .i64 l1) := Ha_4.out.cell 5
        have r_a6 : v4.cell? ⟨w.heap.size, 6, none⟩ = some (.int .i64 l2) := Ha_4.out.cell 6
        have lt_b := Hb_4.out.lt
        have r_b0 : v4.cell? ⟨g1, 0, none⟩ = some (.int .i64 ex) := Hb_4.out.cell 0
        have r_b1 : v4.cell? ⟨g1, 1, none⟩ = some (.int .i64 et) := Hb_4.out.cell 1
        have r_b2 : v4.cell? ⟨g1, 2, none⟩ = some (.int .i64 ec) := Hb_4.out.cell 2
        have r_b3 : v4.cell? ⟨g1, 3, none⟩ = some (.int .i64 es) := Hb_4.out.cell 3
        have r_b4 : v4.cell? ⟨g1, 4, none⟩ = some (.int .i64 ek) := Hb_4.out.cell 4
        have r_b5 : v4.cell? ⟨g1, 5, none⟩ = some (.int .i64 ea) := Hb_4.out.cell 5
        have r_b6 : v4.cell? ⟨g1, 6, none⟩ = some (.int .i64 eb) := Hb_4.out.cell 6
        have r_b7 : v4.cell? ⟨g1, 7, none⟩ = some (.int .i64 eg) := Hb_4.out.cell 7
        have r_b8 : v4.cell? ⟨g1, 8, none⟩ = some (.int .i64 eh) := Hb_4.out.cell 8
        have lt_j := Hj_4.out.lt
        have r_j0 : v4.cell? ⟨v1.heap.size, 0, none⟩ = some (.int .i64 ji) := Hj_4.out.cell 0
        have r_j1 : v4.cell? ⟨v1.heap.size, 1, none⟩ = some (.int .i64 jd) := Hj_4.out.cell 1
        have r_j2 : v4.cell? ⟨v1.heap.size, 2, none⟩ = some (.int .i64 jk) := Hj_4.out.cell 2
        have r_j3 : v4.cell? ⟨v1.heap.size, 3, none⟩ = some (.int .i64 jv) := Hj_4.out.cell 3
        have r_j4 : v4.cell? ⟨v1.heap.size, 4, none⟩ = some (.int .i64 jf) := Hj_4.out.cell 4
        go_wp21
        go_ret
        exact ⟨ret_bool HE2.out.symm, f4⟩
set_option maxRecDepth 100000 in
set_option maxHeartbeats 2000000 in
theorem specFiresIn_any (A : Option Addr) (n c : Nat) (B : Option Addr) (m d : Nat) (i0 t0 l0 l1 l2 : Int) (pl : List Pr) (ql : List Jb) (ex et ec es ek ea eb eg eh : Int) (w : World) (hP : Sl w 2 A n (PR pl)) (hQ : Sl w 5 B m (JB ql)) (hl : pl.length = n) (hr : ql.length = m) (hn : n ≤ maxLen) (hm : m ≤ maxLen) :
    Calls Tryz.prog 53 #[.agg #[.int .i64 i0, .int .i64 t0, .slice A n c, .slice B m d, .int .i64 l0, .int .i64 l1, .int .i64 l2], .agg #[.int .i64 ex, .int .i64 et, .int .i64 ec, .int .i64 es, .int .i64 ek, .int .i64 ea, .int .i64 eb, .int .i64 eg, .int .i64 eh]] w fun e' w' => e' = .returned (.bool (firesInB i0 t0 l0 l1 l2 pl ql ex et ec es ek ea eb eg eh)) ∧ Below w.heap.size w w' := by
  have hL := Lib.hid hl
  have hR := Lib.hid hr
  have HP := Lib.hid hP
  have HQ := Lib.hid hQ
  clear hP hQ hl hr
  go_enter Tryz.func53, Tryz.ntmps53
  go_wp2_with fail
  refine calls_named ?_
  rintro v0 hv0
  have f0 : Below w.heap.size w v0 := by rw [hv0]; (repeat' (first | (with_reducible exact Below.refl _ _) | (with_reducible assumption) | (with_reducible refine Below.alloc ?_ ?_ _) | (with_reducible refine Below.drew ?_) | (with_reducible refine Below.setCell ?_ ?_ _) | (with_reducible refine bstep (by assumption) ?_ ?_) | (with_reducible exact Nat.le_refl _) | omega | (simp [*]; done) | (simp [*]; omega)))
  have z0 : w.heap.size + 2 ≤ v0.heap.size := by rw [hv0]; simp [size_set]
  have HP_0 := Lib.hid (HP.out.below f0)
  have HP_lt := Lib.hid (fun hn => HP.out.lt hn)
  have HQ_0 := Lib.hid (HQ.out.below f0)
  have HQ_lt := Lib.hid (fun hn => HQ.out.lt hn)
  have Ha_0 : Hid (Blk v0 w.heap.size 37 #[.int .i64 i0, .int .i64 t0, .slice A n c, .slice B m d, .int .i64 l0, .int .i64 l1, .int .i64 l2]) := by rw [hv0]; exact (Blk.new_at _ _ _ _ (by simp)).alloc _
  have Hb_0 : Hid (Blk v0 (w.heap.size + 1) 43 #[.int .i64 ex, .int .i64 et, .int .i64 ec, .int .i64 es, .int .i64 ek, .int .i64 ea, .int .i64 eb, .int .i64 eg, .int .i64 eh]) := by rw [hv0]; exact Blk.new_at _ _ _ _ (by simp)
  clear hv0
  generalize hg1 : w.heap.size + 1 = g1 at *
  have lg1 : w.heap.size < g1 := by omega
  have lgz : g1 < v0.heap.size := by omega
  have nq1x0 : ¬ g1 = w.heap.size := by omega
  have nq0x1 : ¬ w.heap.size = g1 := by omega
  clear hg1
  have lt_a := Ha_0.out.lt
  have r_a0 : v0.cell? ⟨w.heap.size, 0, none⟩ = some (.int .i64 i0) := Ha_0.out.cell 0
  have r_a1 : v0.cell? ⟨w.heap.size, 1, none⟩ = some (.int .i64 t0) := Ha_0.out.cell 1
  have r_a2 : v0.cell? ⟨w.heap.size, 2, none⟩ = some (.slice A n c) := Ha_0.out.cell 2
  have r_a3 : v0.cell? ⟨w.heap.size, 3, none⟩ = some (.slice B m d) := Ha_0.out.cell 3
  have r_a4 : v0.cell? ⟨w.heap.size, 4, none⟩ = some (.int .i64 l0) := Ha_0.out.cell 4
  have r_a5 : v0.cell? ⟨w.heap.size, 5, none⟩ = some (.int .i64 l1) := Ha_0.out.cell 5
  have r_a6 : v0.cell? ⟨w.heap.size, 6, none⟩ = some (.int .i64 l2) := Ha_0.out.cell 6
  have lt_b := Hb_0.out.lt
  have r_b0 : v0.cell? ⟨g1, 0, none⟩ = some (.int .i64 ex) := Hb_0.out.cell 0
  have r_b1 : v0.cell? ⟨g1, 1, none⟩ = some (.int .i64 et) := Hb_0.out.cell 1
  have r_b2 : v0.cell? ⟨g1, 2, none⟩ = some (.int .i64 ec) := Hb_0.out.cell 2
  have r_b3 : v0.cell? ⟨g1, 3, none⟩ = some (.int .i64 es) := Hb_0.out.cell 3
  have r_b4 : v0.cell? ⟨g1, 4, none⟩ = some (.int .i64 ek) := Hb_0.out.cell 4
  have r_b5 : v0.cell? ⟨g1, 5, none⟩ = some (.int .i64 ea) := Hb_0.out.cell 5
  have r_b6 : v0.cell? ⟨g1, 6, none⟩ = some (.int .i64 eb) := Hb_0.out.cell 6
  have r_b7 : v0.cell? ⟨g1, 7, none⟩ = some (.int .i64 eg) := Hb_0.out.cell 7
  have r_b8 : v0.cell? ⟨g1, 8, none⟩ = some (.int .i64 eh) := Hb_0.out.cell 8
  have cc := specNextIn_any A n c B m d i0 t0 l0 l1 l2 pl ql ex et ec es ek ea eb eg eh v0 HP_0.out HQ_0.out hL.out hR.out hn hm
  cases r0 : (nextInB i0 t0 l0 l1 l2 pl ql ex et ec es ek ea eb eg eh) with
  | false =>
    rw [r0] at cc
    have Hr0 := Lib.hid r0
    clear r0
    refine (cc).mono ?_
    rintro e v1 ⟨rfl, b1⟩
    have f1 := bthen f0 b1
    have z1 := b1.size
    have HP_1 := Lib.hid (HP_0.out.below b1)
    have HQ_1 := Lib.hid (HQ_0.out.below b1)
    have Ha_1 := Lib.hid (Ha_0.out.below b1)
    have Hb_1 := Lib.hid (Hb_0.out.below b1)
    clear lt_a r_a0 r_a1 r_a2 r_a3 r_a4 r_a5 r_a6 lt_b r_b0 r_b1 r_b2 r_b3 r_b4 r_b5 r_b6 r_b7 r_b8
    clear HP_0 HQ_0 Ha_0 Hb_0
    have lt_a := Ha_1.out.lt
    have r_a0 : v1.cell? ⟨w.heap.size, 0, none⟩ = some (.int .i64 i0) := Ha_1.out.cell 0
    have r_a1 : v1.cell? ⟨w.heap.size, 1, none⟩ = some (.int .i64 t0) := Ha_1.out.cell 1
    have r_a2 : v1.cell? ⟨w.heap.size, 2, none⟩ = some (.slice A n c) := Ha_1.out.cell 2
    have r_a3 : v1.cell? ⟨w.heap.size, 3, none⟩ = some (.slice B m d) := Ha_1.out.cell 3
    have r_a4 : v1.cell? ⟨w.heap.size, 4, none⟩ = some (.int .i64 l0) := Ha_1.out.cell 4
    have r_a5 : v1.cell? ⟨w.heap.size, 5, none⟩ = some (.int .i64 l1) := Ha_1.out.cell 5
    have r_a6 : v1.cell? ⟨w.heap.size, 6, none⟩ = some (.int .i64 l2) := Ha_1.out.cell 6
    have lt_b := Hb_1.out.lt
    have r_b0 : v1.cell? ⟨g1, 0, none⟩ = some (.int .i64 ex) := Hb_1.out.cell 0
    have r_b1 : v1.cell? ⟨g1, 1, none⟩ = some (.int .i64 et) := Hb_1.out.cell 1
    have r_b2 : v1.cell? ⟨g1, 2, none⟩ = some (.int .i64 ec) := Hb_1.out.cell 2
    have r_b3 : v1.cell? ⟨g1, 3, none⟩ = some (.int .i64 es) := Hb_1.out.cell 3
    have r_b4 : v1.cell? ⟨g1, 4, none⟩ = some (.int .i64 ek) := Hb_1.out.cell 4
    have r_b5 : v1.cell? ⟨g1, 5, none⟩ = some (.int .i64 ea) := Hb_1.out.cell 5
    have r_b6 : v1.cell? ⟨g1, 6, none⟩ = some (.int .i64 eb) := Hb_1.out.cell 6
    have r_b7 : v1.cell? ⟨g1, 7, none⟩ = some (.int .i64 eg) := Hb_1.out.cell 7
    have r_b8 : v1.cell? ⟨g1, 8, none⟩ = some (.int .i64 eh) := Hb_1.out.cell 8
    have hv : firesInB i0 t0 l0 l1 l2 pl ql ex et ec es ek ea eb eg eh = false := by unfold firesInB; rw [Hr0.out]; simp
    have HV := Lib.hid hv
    clear hv
    go_wp21
    go_ret
    exact ⟨ret_bool HV.out.symm, f1⟩
  | true =>
    rw [r0] at cc
    have Hr0 := Lib.hid r0
    clear r0
    refine (cc).mono ?_
    rintro e v1 ⟨rfl, b1⟩
    have f1 := bthen f0 b1
    have z1 := b1.size
    have HP_1 := Lib.hid (HP_0.out.below b1)
    have HQ_1 := Lib.hid (HQ_0.out.below b1)
    have Ha_1 := Lib.hid (Ha_0.out.below b1)
    have Hb_1 := Lib.hid (Hb_0.out.below b1)
    clear lt_a r_a0 r_a1 r_a2 r_a3 r_a4 r_a5 r_a6 lt_b r_b0 r_b1 r_b2 r_b3 r_b4 r_b5 r_b6 r_b7 r_b8
    clear HP_0 HQ_0 Ha_0 Hb_0
    have lt_a := Ha_1.out.lt
    have r_a0 : v1.cell? ⟨w.heap.size, 0, none⟩ = some (.int .i64 i0) := Ha_1.out.cell 0
    have r_a1 : v1.cell? ⟨w.heap.size, 1, none⟩ = some (.int .i64 t0) := Ha_1.out.cell 1
    have r_a2 : v1.cell? ⟨w.heap.size, 2, none⟩ = some (.slice A n c) := Ha_1.out.cell 2
    have r_a3 : v1.cell? ⟨w.heap.size, 3, none⟩ = some (.slice B m d) := Ha_1.out.cell 3
    have r_a4 : v1.cell? ⟨w.heap.size, 4, none⟩ = some (.int .i64 l0) := Ha_1.out.cell 4
    have r_a5 : v1.cell? ⟨w.heap.size, 5, none⟩ = some (.int .i64 l1) := Ha_1.out.cell 5
    have r_a6 : v1.cell? ⟨w.heap.size, 6, none⟩ = some (.int .i64 l2) := Ha_1.out.cell 6
    have lt_b := Hb_1.out.lt
    have r_b0 : v1.cell? ⟨g1, 0, none⟩ = some (.int .i64 ex) := Hb_1.out.cell 0
    have r_b1 : v1.cell? ⟨g1, 1, none⟩ = some (.int .i64 et) := Hb_1.out.cell 1
    have r_b2 : v1.cell? ⟨g1, 2, none⟩ = some (.int .i64 ec) := Hb_1.out.cell 2
    have r_b3 : v1.cell? ⟨g1, 3, none⟩ = some (.int .i64 es) := Hb_1.out.cell 3
    have r_b4 : v1.cell? ⟨g1, 4, none⟩ = some (.int .i64 ek) := Hb_1.out.cell 4
    have r_b5 : v1.cell? ⟨g1, 5, none⟩ = some (.int .i64 ea) := Hb_1.out.cell 5
    have r_b6 : v1.cell? ⟨g1, 6, none⟩ = some (.int .i64 eb) := Hb_1.out.cell 6
    have r_b7 : v1.cell? ⟨g1, 7, none⟩ = some (.int .i64 eg) := Hb_1.out.cell 7
    have r_b8 : v1.cell? ⟨g1, 8, none⟩ = some (.int .i64 eh) := Hb_1.out.cell 8
    clear cc
    have hx : firesInB i0 t0 l0 l1 l2 pl ql ex et ec es ek ea eb eg eh = firesB l0 l1 l2 ql et ec ek ea eb := by unfold firesInB; rw [Hr0.out]; rfl
    have HX := Lib.hid hx
    clear hx
    have HJR := Lib.hid (show jobAtR ql ea = jobAtV ql ea by unfold jobAtR; rw [if_pos (nextInB_jobs Hr0.out)])
    cases q1 : (ek == 4) with
    | false =>
      have n1 : (ek != 4) = true := by rw [bne, q1]; rfl
      have HV := Lib.hid (show firesInB i0 t0 l0 l1 l2 pl ql ex et ec es ek ea eb eg eh = false from HX.out.trans (show _ = false by unfold firesB; rw [q1]; rfl))
      go_wp21
      go_ret
      exact ⟨ret_bool HV.out.symm, f1⟩
    | true =>
      have n1 : (ek != 4) = false := by rw [bne, q1]; rfl
      have HK := Lib.hid q1
      have cc := specJobAt_any B m d ql ea v1 HQ_1.out hR.out hm
      rw [HJR.out] at cc
      obtain ⟨J, hj⟩ : ∃ J, J = jobAtV ql ea := ⟨_, rfl⟩
      rw [← hj] at cc
      obtain ⟨⟨ji, jd, jk, jv, jf⟩, ok⟩ := J
      have HE := Lib.hid (HX.out.trans (firesB_at (l0 := l0) (l1 := l1) (l2 := l2) (et := et) (ec := ec) (eb := eb) HK.out hj.symm))
      clear hj
      dsimp only at cc
      cases ok with
      | false =>
        go_wp2_with fail
        refine (cc).mono ?_
        rintro e v2 ⟨rfl, b2⟩
        have f2 := bthen f1 b2
        have z2 := b2.size
        have HP_2 := Lib.hid (HP_1.out.below b2)
        have HQ_2 := Lib.hid (HQ_1.out.below b2)
        have Ha_2 := Lib.hid (Ha_1.out.below b2)
        have Hb_2 := Lib.hid (Hb_1.out.below b2)
        clear lt_a r_a0 r_a1 r_a2 r_a3 r_a4 r_a5 r_a6 lt_b r_b0 r_b1 r_b2 r_b3 r_b4 r_b5 r_b6 r_b7 r_b8
        clear HP_1 HQ_1 Ha_1 Hb_1
        have lt_a := Ha_2.out.lt
        have r_a0 : v2.cell? ⟨w.heap.size, 0, none⟩ = some (.int .i64 i0) := Ha_2.out.cell 0
        have r_a1 : v2.cell? ⟨w.heap.size, 1, none⟩ = some (.int .i64 t0) := Ha_2.out.cell 1
        have r_a2 : v2.cell? ⟨w.heap.size, 2, none⟩ = some (.slice A n c) := Ha_2.out.cell 2
        have r_a3 : v2.cell? ⟨w.heap.size, 3, none⟩ = some (.slice B m d) := Ha_2.out.cell 3
        have r_a4 : v2.cell? ⟨w.heap.size, 4, none⟩ = some (.int .i64 l0) := Ha_2.out.cell 4
        have r_a5 : v2.cell? ⟨w.heap.size, 5, none⟩ = some (.int .i64 l1) := Ha_2.out.cell 5
        have r_a6 : v2.cell? ⟨w.heap.size, 6, none⟩ = some (.int .i64 l2) := Ha_2.out.cell 6
        have lt_b := Hb_2.out.lt
        have r_b0 : v2.cell? ⟨g1, 0, none⟩ = some (.int .i64 ex) := Hb_2.out.cell 0
        have r_b1 : v2.cell? ⟨g1, 1, none⟩ = some (.int .i64 et) := Hb_2.out.cell 1
        have r_b2 : v2.cell? ⟨g1, 2, none⟩ = some (.int .i64 ec) := Hb_2.out.cell 2
        have r_b3 : v2.cell? ⟨g1, 3, none⟩ = some (.int .i64 es) := Hb_2.out.cell 3
        have r_b4 : v2.cell? ⟨g1, 4, none⟩ = some (.int .i64 ek) := Hb_2.out.cell 4
        have r_b5 : v2.cell? ⟨g1, 5, none⟩ = some (.int .i64 ea) := Hb_2.out.cell 5
        have r_b6 : v2.cell? ⟨g1, 6, none⟩ = some (.int .i64 eb) := Hb_2.out.cell 6
        have r_b7 : v2.cell? ⟨g1, 7, none⟩ = some (.int .i64 eg) := Hb_2.out.cell 7
        have r_b8 : v2.cell? ⟨g1, 8, none⟩ = some (.int .i64 eh) := Hb_2.out.cell 8
        have HV := Lib.hid (show firesInB i0 t0 l0 l1 l2 pl ql ex et ec es ek ea eb eg eh = false from HE.out.trans (by simp))
        go_wp21
        go_ret
        exact ⟨ret_bool HV.out.symm, f2.alloc f2.size _⟩
      | true =>
        go_wp2_with fail
        refine (cc).mono ?_
        rintro e v2 ⟨rfl, b2⟩
        have f2 := bthen f1 b2
        have z2 := b2.size
        have HP_2 := Lib.hid (HP_1.out.below b2)
        have HQ_2 := Lib.hid (HQ_1.out.below b2)
        have Ha_2 := Lib.hid (Ha_1.out.below b2)
        have Hb_2 := Lib.hid (Hb_1.out.below b2)
        clear lt_a r_a0 r_a1 r_a2 r_a3 r_a4 r_a5 r_a6 lt_b r_b0 r_b1 r_b2 r_b3 r_b4 r_b5 r_b6 r_b7 r_b8
        clear HP_1 HQ_1 Ha_1 Hb_1
        clear cc
        have lt_a := Ha_2.out.lt
        have r_a0 : v2.cell? ⟨w.heap.size, 0, none⟩ = some (.int .i64 i0) := Ha_2.out.cell 0
        have r_a1 : v2.cell? ⟨w.heap.size, 1, none⟩ = some (.int .i64 t0) := Ha_2.out.cell 1
        have r_a2 : v2.cell? ⟨w.heap.size, 2, none⟩ = some (.slice A n c) := Ha_2.out.cell 2
        have r_a3 : v2.cell? ⟨w.heap.size, 3, none⟩ = some (.slice B m d) := Ha_2.out.cell 3
        have r_a4 : v2.cell? ⟨w.heap.size, 4, none⟩ = some (.int .i64 l0) := Ha_2.out.cell 4
        have r_a5 : v2.cell? ⟨w.heap.size, 5, none⟩ = some (.int .i64 l1) := Ha_2.out.cell 5
        have r_a6 : v2.cell? ⟨w.heap.size, 6, none⟩ = some (.int .i64 l2) := Ha_2.out.cell 6
        have lt_b := Hb_2.out.lt
        have r_b0 : v2.cell? ⟨g1, 0, none⟩ = some (.int .i64 ex) := Hb_2.out.cell 0
        have r_b1 : v2.cell? ⟨g1, 1, none⟩ = some (.int .i64 et) := Hb_2.out.cell 1
        have r_b2 : v2.cell? ⟨g1, 2, none⟩ = some (.int .i64 ec) := Hb_2.out.cell 2
        have r_b3 : v2.cell? ⟨g1, 3, none⟩ = some (.int .i64 es) := Hb_2.out.cell 3
        have r_b4 : v2.cell? ⟨g1, 4, none⟩ = some (.int .i64 ek) := Hb_2.out.cell 4
        have r_b5 : v2.cell? ⟨g1, 5, none⟩ = some (.int .i64 ea) := Hb_2.out.cell 5
        have r_b6 : v2.cell? ⟨g1, 6, none⟩ = some (.int .i64 eb) := Hb_2.out.cell 6
        have r_b7 : v2.cell? ⟨g1, 7, none⟩ = some (.int .i64 eg) := Hb_2.out.cell 7
        have r_b8 : v2.cell? ⟨g1, 8, none⟩ = some (.int .i64 eh) := Hb_2.out.cell 8
        cases s1 : (jf == 0) with
        | false =>
          have HE2 := Lib.hid (HE.out.trans (show _ = false by rw [s1]; simp))
          have HV := Lib.hid (show firesInB i0 t0 l0 l1 l2 pl ql ex et ec es ek ea eb eg eh = false from HE2.out)
          go_wp21
          go_ret
          exact ⟨ret_bool HV.out.symm, f2.alloc f2.size _⟩
        | true =>
          have S1 := Lib.hid s1
          by_cases s2 : jd ≤ et
          rotate_left
          · have s3 : et < jd := by omega
            have HE2 := Lib.hid (HE.out.trans (show _ = false by rw [decide_eq_false s2]; simp))
            have HV := Lib.hid (show firesInB i0 t0 l0 l1 l2 pl ql ex et ec es ek ea eb eg eh = false from HE2.out)
            go_wp21
            go_ret
            exact ⟨ret_bool HV.out.symm, f2.alloc f2.size _⟩
          have HE2 := Lib.hid (HE.out.trans (show _ = holdsB l0 l1 l2 ec eb et by rw [S1.out, decide_eq_true s2]; rfl))
          go_wp2_with fail
          refine calls_named ?_
          rintro v3 hv3
          have f3 : Below w.heap.size w v3 := by rw [hv3]; (repeat' (first | (with_reducible exact Below.refl _ _) | (with_reducible assumption) | (with_reducible refine Below.alloc ?_ ?_ _) | (with_reducible refine Below.drew ?_) | (with_reducible refine Below.setCell ?_ ?_ _) | (with_reducible refine bstep (by assumption) ?_ ?_) | (with_reducible exact Nat.le_refl _) | omega | (simp [*]; done) | (simp [*]; omega)))
          have z3 : v2.heap.size + 1 ≤ v3.heap.size := by rw [hv3]; simp [size_set]
          have HP_3 : Hid (Sl v3 2 A n (PR pl)) := by rw [hv3]; exact (HP_2.out).alloc _
          have HQ_3 : Hid (Sl v3 5 B m (JB ql)) := by rw [hv3]; exact (HQ_2.out).alloc _
          have Ha_3 : Hid (Blk v3 w.heap.size 37 #[.int .i64 i0, .int .i64 t0, .slice A n c, .slice B m d, .int .i64 l0, .int .i64 l1, .int .i64 l2]) := by rw [hv3]; exact (Ha_2.out).alloc _
          have Hb_3 : Hid (Blk v3 g1 43 #[.int .i64 ex, .int .i64 et, .int .i64 ec, .int .i64 es, .int .i64 ek, .int .i64 ea, .int .i64 eb, .int .i64 eg, .int .i64 eh]) := by rw [hv3]; exact (Hb_2.out).alloc _
          have Hj_3 : Hid (Blk v3 v2.heap.size 71 #[.int .i64 ji, .int .i64 jd, .int .i64 jk, .int .i64 jv, .int .i64 jf]) := by rw [hv3]; exact (Blk.new_at _ _ _ _ (by simp [size_set]))
          clear lt_a r_a0 r_a1 r_a2 r_a3 r_a4 r_a5 r_a6 lt_b r_b0 r_b1 r_b2 r_b3 r_b4 r_b5 r_b6 r_b7 r_b8
          clear hv3 HP_2 HQ_2 Ha_2 Hb_2
          have ch := specHoldsAt_any l0 l1 l2 ec eb et v3
          generalize holdsB l0 l1 l2 ec eb et = q at ch HE2
          have lt_a := Ha_3.out.lt
          have r_a0 : v3.cell? ⟨w.heap.size, 0, none⟩ = some (.int .i64 i0) := Ha_3.out.cell 0
          have r_a1 : v3.cell? ⟨w.heap.size, 1, none⟩ = some (.int .i64 t0) := Ha_3.out.cell 1
          have r_a2 : v3.cell? ⟨w.heap.size, 2, none⟩ = some (.slice A n c) := Ha_3.out.cell 2
          have r_a3 : v3.cell? ⟨w.heap.size, 3, none⟩ = some (.slice B m d) := Ha_3.out.cell 3
          have r_a4 : v3.cell? ⟨w.heap.size, 4, none⟩ = some (.int .i64 l0) := Ha_3.out.cell 4
          have r_a5 : v3.cell? ⟨w.heap.size, 5, none⟩ = some (.int .i64 l1) := Ha_3.out.cell 5
          have r_a6 : v3.cell? ⟨w.heap.size, 6, none⟩ = some (.int .i64 l2) := Ha_3.out.cell 6
          have lt_b := Hb_3.out.lt
          have r_b0 : v3.cell? ⟨g1, 0, none⟩ = some (.int .i64 ex) := Hb_3.out.cell 0
          have r_b1 : v3.cell? ⟨g1, 1, none⟩ = some (.int .i64 et) := Hb_3.out.cell 1
          have r_b2 : v3.cell? ⟨g1, 2, none⟩ = some (.int .i64 ec) := Hb_3.out.cell 2
          have r_b3 : v3.cell? ⟨g1, 3, none⟩ = some (.int .i64 es) := Hb_3.out.cell 3
          have r_b4 : v3.cell? ⟨g1, 4, none⟩ = some (.int .i64 ek) := Hb_3.out.cell 4
          have r_b5 : v3.cell? ⟨g1, 5, none⟩ = some (.int .i64 ea) := Hb_3.out.cell 5
          have r_b6 : v3.cell? ⟨g1, 6, none⟩ = some (.int .i64 eb) := Hb_3.out.cell 6
          have r_b7 : v3.cell? ⟨g1, 7, none⟩ = some (.int .i64 eg) := Hb_3.out.cell 7
          have r_b8 : v3.cell? ⟨g1, 8, none⟩ = some (.int .i64 eh) := Hb_3.out.cell 8
          have lt_j := Hj_3.out.lt
          have r_j0 : v3.cell? ⟨v2.heap.size, 0, none⟩ = some (.int .i64 ji) := Hj_3.out.cell 0
          have r_j1 : v3.cell? ⟨v2.heap.size, 1, none⟩ = some (.int .i64 jd) := Hj_3.out.cell 1
          have r_j2 : v3.cell? ⟨v2.heap.size, 2, none⟩ = some (.int .i64 jk) := Hj_3.out.cell 2
          have r_j3 : v3.cell? ⟨v2.heap.size, 3, none⟩ = some (.int .i64 jv) := Hj_3.out.cell 3
          have r_j4 : v3.cell? ⟨v2.heap.size, 4, none⟩ = some (.int .i64 jf) := Hj_3.out.cell 4
          refine (ch).mono ?_
          rintro e v4 ⟨rfl, b4⟩
          have f4 := bthen f3 b4
          have z4 := b4.size
          have HP_4 := Lib.hid (HP_3.out.below b4)
          have HQ_4 := Lib.hid (HQ_3.out.below b4)
          have Ha_4 := Lib.hid (Ha_3.out.below b4)
          have Hb_4 := Lib.hid (Hb_3.out.below b4)
          have Hj_4 := Lib.hid (Hj_3.out.below b4)
          clear lt_a r_a0 r_a1 r_a2 r_a3 r_a4 r_a5 r_a6 lt_b r_b0 r_b1 r_b2 r_b3 r_b4 r_b5 r_b6 r_b7 r_b8 lt_j r_j0 r_j1 r_j2 r_j3 r_j4
          clear HP_3 HQ_3 Ha_3 Hb_3 Hj_3
          clear ch
          have lt_a := Ha_4.out.lt
          have r_a0 : v4.cell? ⟨w.heap.size, 0, none⟩ = some (.int .i64 i0) := Ha_4.out.cell 0
          have r_a1 : v4.cell? ⟨w.heap.size, 1, none⟩ = some (.int .i64 t0) := Ha_4.out.cell 1
          have r_a2 : v4.cell? ⟨w.heap.size, 2, none⟩ = some (.slice A n c) := Ha_4.out.cell 2
          have r_a3 : v4.cell? ⟨w.heap.size, 3, none⟩ = some (.slice B m d) := Ha_4.out.cell 3
          have r_a4 : v4.cell? ⟨w.heap.size, 4, none⟩ = some (.int .i64 l0) := Ha_4.out.cell 4
          have r_a5 : v4.cell? ⟨w.heap.size, 5, none⟩ = some (.int .i64 l1) := Ha_4.out.cell 5
          have r_a6 : v4.cell? ⟨w.heap.size, 6, none⟩ = some (.int .i64 l2) := Ha_4.out.cell 6
          have lt_b := Hb_4.out.lt
          have r_b0 : v4.cell? ⟨g1, 0, none⟩ = some (.int .i64 ex) := Hb_4.out.cell 0
          have r_b1 : v4.cell? ⟨g1, 1, none⟩ = some (.int .i64 et) := Hb_4.out.cell 1
          have r_b2 : v4.cell? ⟨g1, 2, none⟩ = some (.int .i64 ec) := Hb_4.out.cell 2
          have r_b3 : v4.cell? ⟨g1, 3, none⟩ = some (.int .i64 es) := Hb_4.out.cell 3
          have r_b4 : v4.cell? ⟨g1, 4, none⟩ = some (.int .i64 ek) := Hb_4.out.cell 4
          have r_b5 : v4.cell? ⟨g1, 5, none⟩ = some (.int .i64 ea) := Hb_4.out.cell 5
          have r_b6 : v4.cell? ⟨g1, 6, none⟩ = some (.int .i64 eb) := Hb_4.out.cell 6
          have r_b7 : v4.cell? ⟨g1, 7, none⟩ = some (.int .i64 eg) := Hb_4.out.cell 7
          have r_b8 : v4.cell? ⟨g1, 8, none⟩ = some (.int .i64 eh) := Hb_4.out.cell 8
          have lt_j := Hj_4.out.lt
          have r_j0 : v4.cell? ⟨v2.heap.size, 0, none⟩ = some (.int .i64 ji) := Hj_4.out.cell 0
          have r_j1 : v4.cell? ⟨v2.heap.size, 1, none⟩ = some (.int .i64 jd) := Hj_4.out.cell 1
          have r_j2 : v4.cell? ⟨v2.heap.size, 2, none⟩ = some (.int .i64 jk) := Hj_4.out.cell 2
          have r_j3 : v4.cell? ⟨v2.heap.size, 3, none⟩ = some (.int .i64 jv) := Hj_4.out.cell 3
          have r_j4 : v4.cell? ⟨v2.heap.size, 4, none⟩ = some (.int .i64 jf) := Hj_4.out.cell 4
          go_wp21
          go_ret
          exact ⟨ret_bool HE2.out.symm, f4⟩
end Go.Proofs.YtokklkmibjpjnaaGreat
namespace Go.Proofs.YtokklkmibjpjnaaGreat
set_option linter.unusedSimpArgs false
set_option linter.unusedVariables false
attribute [local go_sem] n_lt2 n_lt3 n_lt4 n_le2 n_le3
open Go.RowKit
attribute [local go_sem] Ext.cell Ext.frozen

theorem putSet_row {w : World} {g lo n cap k : Nat} {cs : Array Value} {l : List Pr} {key v : Int} (K : Blk w g 106 cs) (hlo : lo ≤ g) (hnc : n ≤ cap) (hcm : cap ≤ maxLen) (hcs : cs.size = cap * 2) (hl : l.length = n) (hj : ∀ j, j < n * 2 → cs[j]? = some (.int .i64 ((PR l).getD j 0)))
    (hk : k < n) (he : (l.getD k default).k = key) : Row (w.setCell ⟨g, k * 2 + 1, none⟩ (.int .i64 v)) lo 106 2 (some ⟨g, 0, none⟩) n cap (PR (l.set k ⟨key, v⟩)) := by
  refine Row.of_blk (K.set_ _ _) hlo hnc hcm (by simpa using hcs) (by rw [PR_len]; simp; omega) (fun t ht => ?_)
  rw [PR_set_getD l k key v (by omega) he t (by omega)]
  by_cases h : t = k * 2 + 1
  · subst h
    rw [if_pos rfl, Array.getElem?_setIfInBounds_self_of_lt (by omega)]
  · rw [if_neg h, Array.getElem?_setIfInBounds_ne (by omega), hj t ht]
set_option maxRecDepth 100000 in
set_option maxHeartbeats 4000000 in
theorem put_walk (A : Option Addr) (n cap : Nat) (l : List Pr) (key v : Int) (w : World) (hS : Sl w 2 A n (PR l)) (hl : l.length = n) (hn : n ≤ maxLen) (hA : A = none → n = 0 ∧ cap = 0) :
    Calls Tryz.prog 98 #[.slice A n cap, .int .i64 key, .int .i64 v] w (RetPut w l key v) := by
  have c1 := pairsOk_any A n cap l w hS hl hn
  by_cases hpa : pairsB l = true
  · have h10 : n ≤ 10 := by have := pairsB_len hpa; omega
    rw [hpa] at c1
    have HL := Lib.hid hl
    have HS := Lib.hid hS
    by_cases hr : inB key 0 9 = true ∧ inB v 0 999 = true
    · have HR := Lib.hid (show putR l key v = (putL l key v, true) by unfold putR; rw [if_pos hpa, if_pos (by unfold rightB; rw [hr.1, hr.2]; rfl)])
      obtain ⟨hr1, hr2⟩ := hr
      clear hpa hl hS
      go_enter Tryz.func98, Tryz.ntmps98
      go_wp2_with fail
      refine c1.mono ?_
      rintro e w1 ⟨rfl, b1⟩
      go_wp2_with fail
      refine (copyPairs_any A n cap l w1 (HS.out.below b1) HL.out (by omega) hA).mono ?_
      rintro e w2 ⟨A2, cap2, rfl, R2, b2⟩
      have hbl := bthen b1 b2
      have R2 := R2.mono b1.size
      have hcp := R2.cap_le
      have hcn := hcp.1
      have hcm := hcp.2
      have hs2 := hbl.size
      have HC := Lib.hid hcm
      unfold maxLen at hcm
      clear b1 b2 c1 hcp
      go_wp2_with (first | (go_at_call 88; refine (keyOk_any _ _).mono ?_; rintro e w' ⟨rfl, rfl⟩) | (go_at_call 89; refine (valueOk_any _ _).mono ?_; rintro e w' ⟨rfl, rfl⟩))
      go_loop [9] (fun i => ∃ k : Nat, k ≤ n ∧ i = .int .i64 (k : Nat) ∧ Hid (∀ j, j < k → (l.getD j default).k < key)) (fun i => n - (intOf i).toNat)
      case atStart => exact ⟨0, Nat.zero_le _, rfl, fun j hj => absurd hj (by omega)⟩
      case round =>
        obtain ⟨k, hk, rfl, hall⟩ := hrel
        by_cases hlt : k < n
        · obtain ⟨g, cs, rfl, hlg, K, _, _, hcs, hj⟩ := R2.blk (by omega)
          have q0 : (w2.cell? ⟨g, k * 2, none⟩) = some (.int .i64 (l.getD k default).k) := by rw [K.cell, hj _ (by omega), PR_get0 l k (by have := HL.out; omega)]
          have HJ := Lib.hid (And.intro hcs (And.intro hlg hj))
          have HK := Lib.hid K
          have hlt' : (k : Int) < (n : Int) := by omega
          generalize hx : (l.getD k default).k = x at q0
          have HX := Lib.hid hx
          clear hx hj hcs K
          by_cases h1 : x < key
          · go_wp2
            exact ⟨⟨k + 1, by omega, by go_num, Lib.hid (fun j hjk => by
              rcases Nat.lt_or_ge j k with h | h
              · exact hall.out j h
              · obtain rfl : j = k := by omega
                rw [HX.out]; exact h1)⟩, by simp [intOf]; omega⟩
          · by_cases h2 : x = key
            · have HE := Lib.hid (putL_set k l key v (by have := HL.out; omega) hall.out (by rw [HX.out, h2]))
              have hcell : ∃ c, w2.cell? ⟨g, k * 2 + 1, none⟩ = some c := HK.out.has (by have := HJ.out.1; omega)
              obtain ⟨c, hc1⟩ := hcell
              have hf := HK.out.frozen (k * 2 + 1)
              subst h2
              go_wp2
              refine bodyPost_ret (v := .tuple #[.slice (some ⟨g, 0, none⟩) n cap2, .bool true]) (by simp [results, Tryz.results98, go_sem, *]) rfl ?_
              refine retPut (HR.out.trans (by rw [HE.out])) (by simpa using HL.out.symm) (putSet_row HK.out HJ.out.2.1 hcn HC.out HJ.out.1 HL.out HJ.out.2.2 hlt HX.out) (hbl.setCell HJ.out.2.1 _)
            · have h2' : (x == key) = false := by simpa using h2
              have HE := Lib.hid (putL_ins k l key v (by have := HL.out; omega) hall.out (fun _ => by rw [HX.out]; omega))
              go_wp2_with fail
              refine calls_named ?_
              rintro wq hwq
              have Rq : Row wq w.heap.size 106 2 (some ⟨g, 0, none⟩) n cap2 (PR l) := by rw [hwq]; exact World.ownsRow.alloc R2 _
              have V : Blk wq w2.heap.size 106 (ints [key, v]).toArray := by rw [hwq]; exact Blk.new _ _ _
              have fq : Below w.heap.size w wq := by rw [hwq]; exact hbl.alloc hs2 _
              have hgl := HK.out.lt
              clear hwq
              refine (insertPair_any w.heap.size (some ⟨g, 0, none⟩) n cap2 k w2.heap.size (PR l) [key, v] wq Rq fq.size (by omega) hk rfl V (fun a ha => by obtain rfl := Option.some.inj ha; exact Nat.ne_of_lt hgl)).mono ?_
              rintro e w4 ⟨A4, c4, rfl, R4, b4⟩
              go_wp2
              refine bodyPost_ret (v := .tuple #[.slice A4 (n + 1) c4, .bool true]) (by simp [results, Tryz.results98, go_sem, *]) rfl ?_
              rw [← PR_ins] at R4
              refine retPut (HR.out.trans (by rw [HE.out])) ?_ R4 (fq.trans b4)
              have := HL.out
              simp; omega
        · have hkn : k = n := by omega
          subst hkn
          have HE := Lib.hid (putL_ins k l key v (by have := HL.out; omega) hall.out (fun h => absurd h (by have := HL.out; omega)))
          have hltA := R2.lt
          go_wp2_with fail
          refine calls_named ?_
          rintro wq hwq
          have Rq : Row wq w.heap.size 106 2 A2 k cap2 (PR l) := by rw [hwq]; exact World.ownsRow.alloc R2 _
          have V : Blk wq w2.heap.size 106 (ints [key, v]).toArray := by rw [hwq]; exact Blk.new _ _ _
          have fq : Below w.heap.size w wq := by rw [hwq]; exact hbl.alloc hs2 _
          clear hwq
          refine (insertPair_any w.heap.size A2 k cap2 k w2.heap.size (PR l) [key, v] wq Rq fq.size (by omega) hk rfl V (fun a ha => Nat.ne_of_lt (hltA a ha))).mono ?_
          rintro e w4 ⟨A4, c4, rfl, R4, b4⟩
          go_wp2
          refine bodyPost_ret (v := .tuple #[.slice A4 (k + 1) c4, .bool true]) (by simp [results, Tryz.results98, go_sem, *]) rfl ?_
          rw [← PR_ins] at R4
          refine retPut (HR.out.trans (by rw [HE.out])) ?_ R4 (fq.trans b4)
          have := HL.out
          simp; omega
    · have HR := Lib.hid (show putR l key v = (l, false) by
        unfold putR
        rw [if_pos hpa, if_neg]
        intro h
        unfold rightB at h
        simp only [Bool.and_eq_true] at h
        exact hr h)
      have hcs : inB key 0 9 = false ∨ (inB key 0 9 = true ∧ inB v 0 999 = false) := by
        by_cases h1 : inB key 0 9 = true
        · exact .inr ⟨h1, by rw [← Bool.not_eq_true]; exact fun h2 => hr ⟨h1, h2⟩⟩
        · exact .inl (by simpa using h1)
      clear hpa hl hS hr
      rcases hcs with hr1 | ⟨hr1, hr2⟩
      all_goals
        go_enter Tryz.func98, Tryz.ntmps98
        go_wp2_with fail
        refine c1.mono ?_
        rintro e w1 ⟨rfl, b1⟩
        go_wp2_with fail
        refine (copyPairs_any A n cap l w1 (HS.out.below b1) HL.out (by omega) hA).mono ?_
        rintro e w2 ⟨A2, cap2, rfl, R2, b2⟩
        go_wp2_with (first | (go_at_call 88; refine (keyOk_any _ _).mono ?_; rintro e w' ⟨rfl, rfl⟩) | (go_at_call 89; refine (valueOk_any _ _).mono ?_; rintro e w' ⟨rfl, rfl⟩))
        refine bodyPost_ret (v := .tuple #[.slice A2 n cap2, .bool false]) (by simp [results, Tryz.results98, go_sem, *]) rfl ?_
        exact retPut HR.out HL.out.symm (R2.mono b1.size) (bthen b1 b2)
  · have hpa' : pairsB l = false := by simpa using hpa
    have HR := Lib.hid (show putR l key v = ([], false) by unfold putR; rw [if_neg hpa])
    rw [hpa'] at c1
    go_enter Tryz.func98, Tryz.ntmps98
    go_wp2_with fail
    refine c1.mono ?_
    rintro e w1 ⟨rfl, b1⟩
    go_wp2
    refine bodyPost_ret (v := .tuple #[.slice none 0 0, .bool false]) (by simp [results, Tryz.results98, go_sem, *]) rfl ?_
    exact retPut HR.out rfl (Row.nil _ _ _ _) b1
theorem putRI_any (A : Option Addr) (n cap : Nat) (l : List Pr) (key v : Int) (w : World) (hS : Sl w 2 A n (PR l)) (hl : l.length = n) (hn : n ≤ maxLen) (hA : A = none → n = 0 ∧ cap = 0) :
    Calls Tryz.prog 98 #[.slice A n cap, .int .i64 key, .int .i64 v] w (RetRowB w 106 2 (putR l key v).1.length (PR (putR l key v).1) (putR l key v).2) := put_walk A n cap l key v w hS hl hn hA
theorem putRS_any (A : Option Addr) (n cap : Nat) (l : List Pr) (key v : Int) (w : World) (hS : Sl w 2 A n (PR l)) (hl : l.length = n) (hn : n ≤ maxLen) (hA : A = none → n = 0 ∧ cap = 0) :
    Calls Tryz.prog 29 #[.slice A n cap, .int .i64 key, .int .i64 v] w (RetRowB w 106 2 (putR l key v).1.length (PR (putR l key v).1) (putR l key v).2) := specPut_any A n cap l key v w hS hl hn hA
end Go.Proofs.YtokklkmibjpjnaaGreat
namespace Go.Proofs.YtokklkmibjpjnaaGreat
set_option linter.unusedSimpArgs false
set_option linter.unusedVariables false
attribute [local go_sem] n_lt2 n_lt3 n_lt4 n_le2 n_le3
open Go.RowKit

/-- What Insert leaves: the row with the new element. -/
def InsResJob (lo n i : Nat) (zs vs : List Int) (w : World) (e : Ending) (w' : World) : Prop := ∃ A' cap', e = .returned (.slice A' (n + 1) cap') ∧ Row w' lo 71 5 A' (n + 1) cap' (zs.take (i * 5) ++ vs ++ zs.drop (i * 5)) ∧ Below lo w w'
theorem zeroI_Job (w : World) : (zeroValue 71).run Tryz.prog w = .ok (.agg #[.int .i64 0, .int .i64 0, .int .i64 0, .int .i64 0, .int .i64 0]) w := by kernel_rfl
theorem sizeI_Job (w : World) : (Go.sizeOf 71).run Tryz.prog w = .ok 5 w := by kernel_rfl
set_option maxRecDepth 100000 in
set_option maxHeartbeats 2000000 in
theorem insertJob_end (lo : Nat) (A : Option Addr) (n cap vb : Nat) (zs vs : List Int) (w : World) (R : Row w lo 71 5 A n cap zs) (hlo : lo ≤ w.heap.size) (hn : n ≤ 1000) (hvl : vs.length = 5) (V : Blk w vb 71 (ints vs).toArray) :
    Calls Tryz.prog 120 #[.slice A n cap, .int .i64 (n : Nat), .slice (some ⟨vb, 0, none⟩) 1 1] w (InsResJob lo n n zs vs w) := by
  have hzl := R.len
  have e1 : zs.take (n * 5) ++ vs ++ zs.drop (n * 5) = zs ++ vs := by rw [List.take_of_length_le (by omega), List.drop_eq_nil_of_le (by omega), List.append_nil]
  have hnw : ∀ j u, (ints vs)[j]? = some u → w.cell? ((⟨vb, 0, none⟩ : Addr).add j) = some u := fun j u hu => by
    have ha : (⟨vb, 0, none⟩ : Addr).add j = ⟨vb, j, none⟩ := by unfold Addr.add; split <;> simp_all
    rw [ha, V.cell]
    simpa using hu
  have hcp := R.cap_le
  have hcm : cap ≤ 9223372036854775807 := by have := hcp.2; unfold maxLen at this; omega
  have hcn := hcp.1
  have H1 := Lib.hid hnw
  have H2 := Lib.hid e1
  clear hnw e1 V hcp
  go_enter Tryz.func120, Tryz.ntmps120
  go_wp2_with (at_builtin; refine wpList_append_row rfl _ _ 34 rfl 71 (.agg #[.int .i64 0, .int .i64 0, .int .i64 0, .int .i64 0, .int .i64 0]) 5 40 Tryz.underlying34 info_Job (by first | kernel_rfl | simp [Value.cells]) (by decide) lo A n cap zs rfl R ⟨vb, 0, none⟩ 1 1 vs rfl (by omega) H1.out (by unfold maxLen; omega) (by omega) hlo ?_; intro A5 c5 w5 R5 B5)
  all_goals (go_ret; exact ⟨A5, c5, rfl, by rw [H2.out]; exact R5, B5⟩)
set_option maxRecDepth 100000 in
set_option maxHeartbeats 4000000 in
theorem insertJob_shift (lo g n cap i vb : Nat) (cs : Array Value) (zs vs : List Int) (w : World) (K : Blk w g 71 cs) (hlo : lo ≤ g) (hcs : cs.size = cap * 5) (hzl : zs.length = n * 5) (hj : ∀ j, j < n * 5 → cs[j]? = some (.int .i64 (zs.getD j 0))) (hcm : cap ≤ maxLen)
    (hi : i < n) (hroom : n + 1 ≤ cap) (hvl : vs.length = 5) (V : Blk w vb 71 (ints vs).toArray) (hvb : vb ≠ g) :
    Calls Tryz.prog 120 #[.slice (some ⟨g, 0, none⟩) n cap, .int .i64 (i : Nat), .slice (some ⟨vb, 0, none⟩) 1 1] w (InsResJob lo n i zs vs w) := by
  unfold maxLen at hcm
  have hsz : (Tryz.prog.info? 71).map (·.size) = some 5 := by kernel_rfl
  have hov : ∀ a lb cb, a = (⟨g, (i + 1) * 5, none⟩ : Addr) → (callFunc 133 #[.slice (some ⟨vb, 0, none⟩) 1 1, .slice (some a) lb cb]).run Tryz.prog w = .ok (.value (.bool false)) w := fun a lb cb ha => by
    subst ha
    rw [run_callFunc_extern Tryz.func133 (by kernel_rfl) (by kernel_rfl) (by kernel_rfl) (e := Extern.SlicesOverlaps.overlaps #[34, 34] #[4]) (by kernel_rfl),
      Lib.run_overlaps_apart w 34 4 71 Tryz.underlying34 5 sizeI_Job ⟨vb, 0, none⟩ ⟨g, (i + 1) * 5, none⟩ 1 1 lb cb hvb _ _ _ _ V.shape K.shape (by omega) (V.frozen _) (V.frozen _)]
    rfl
  have hdl : (ints (zs.drop (i * 5))).length = (n - i) * 5 := by rw [ints_length, List.length_drop]; omega
  have hcp1 : ∀ ty dc sc, (Builtin.copy_ #[34, 34] ty #[.slice (some ⟨g, (i + 1) * 5, none⟩) (n - i) dc, .slice (some ⟨g, i * 5, none⟩) (n + 1 - i) sc]).run Tryz.prog w.drew = .ok (goInt ((n - i : Nat) : Int)) (w.drew.setCells g ((i + 1) * 5) (ints (zs.drop (i * 5)))) := fun ty dc sc =>
    run_copy_flat w.drew _ _ ty 71 5 (n - i) g ((i + 1) * 5) (n - i) dc ⟨g, i * 5, none⟩ (n + 1 - i) sc _ Tryz.underlying34 hsz (by simp only [Nat.min_def]; split <;> omega) hdl
      (fun j v hjv => by
        have ha : (⟨g, i * 5, none⟩ : Addr).add j = ⟨g, i * 5 + j, none⟩ := by unfold Addr.add; split <;> simp_all
        have hjl : j < (zs.drop (i * 5)).length := by
          have := (List.getElem?_eq_some_iff.1 hjv).1
          rwa [ints_length] at this
        rw [ints_get _ j hjl] at hjv
        rw [List.length_drop] at hjl
        rw [ha, K.drew.cell, hj _ (by omega), ← hjv, getD_drop])
      (fun j hj' => by rw [hdl] at hj'; obtain ⟨c, hc⟩ := K.drew.has (i := (i + 1) * 5 + j) (by omega); rw [hc]; rfl) (fun j _ => K.drew.frozen _) (ints_oneCell' _)
  obtain ⟨W1, hW1⟩ : ∃ W1, W1 = w.drew.setCells g ((i + 1) * 5) (ints (zs.drop (i * 5))) := ⟨_, rfl⟩
  rw [← hW1] at hcp1
  have K1 : Blk W1 g 71 (over cs ((i + 1) * 5) (ints (zs.drop (i * 5)))) := by rw [hW1]; exact Blk.over _ _ _ _ K.drew
  have V1 : Blk W1 vb 71 (ints vs).toArray := by rw [hW1]; exact (heap_setCells hvb _ _ _).trans V
  have b1 : Below lo w W1 := by rw [hW1]; exact below_setCells hlo _ _ _ (Below.drew (Below.refl _ _))
  have hs1 : (over cs ((i + 1) * 5) (ints (zs.drop (i * 5)))).size = cap * 5 := by rw [over_size, hcs]
  have hcp2 : ∀ ty dc, (Builtin.copy_ #[34, 34] ty #[.slice (some ⟨g, i * 5, none⟩) (n + 1 - i) dc, .slice (some ⟨vb, 0, none⟩) 1 1]).run Tryz.prog W1 = .ok (goInt ((1 : Nat) : Int)) (W1.setCells g (i * 5) (ints vs)) := fun ty dc =>
    run_copy_flat W1 _ _ ty 71 5 1 g (i * 5) (n + 1 - i) dc ⟨vb, 0, none⟩ 1 1 _ Tryz.underlying34 hsz (by simp only [Nat.min_def]; split <;> omega) (by rw [ints_length]; omega)
      (fun j v hjv => by
        have ha : (⟨vb, 0, none⟩ : Addr).add j = ⟨vb, j, none⟩ := by unfold Addr.add; split <;> simp_all
        rw [ha, V1.cell]
        simpa using hjv)
      (fun j hj' => by rw [ints_length] at hj'; obtain ⟨c, hc⟩ := K1.has (i := i * 5 + j) (by omega); rw [hc]; rfl) (fun j _ => K1.frozen _) (ints_oneCell' _)
  have K2 : Blk (W1.setCells g (i * 5) (ints vs)) g 71 (over (over cs ((i + 1) * 5) (ints (zs.drop (i * 5)))) (i * 5) (ints vs)) := Blk.over _ _ _ _ K1
  have b2 : Below lo w (W1.setCells g (i * 5) (ints vs)) := below_setCells hlo _ _ _ b1
  have hfin : Row (W1.setCells g (i * 5) (ints vs)) lo 71 5 (some ⟨g, 0, none⟩) (n + 1) cap (zs.take (i * 5) ++ vs ++ zs.drop (i * 5)) := by
    refine Row.of_blk K2 hlo hroom (by unfold maxLen; omega) (by rw [over_size, hs1]) (by simp; omega) (fun t ht => ?_)
    rw [ins_getD _ _ _ _ (by omega)]
    split
    · rename_i h1
      rw [over_out _ _ _ _ (.inl h1), over_out _ _ _ _ (.inl (by omega)), hj t (by omega)]
    · split
      · rename_i h1 h2
        rw [show t = i * 5 + (t - i * 5) by omega, over_in _ _ _ _ (by rw [hs1, ints_length]; omega) (by rw [ints_length]; omega), ints_get _ _ (by omega)]
        congr 3
        omega
      · rename_i h1 h2
        rw [over_out _ _ _ _ (.inr (by rw [ints_length]; omega)), show t = (i + 1) * 5 + (t - (i + 1) * 5) by omega, over_in _ _ _ _ (by rw [hdl]; omega) (by rw [hdl]; omega), ints_get _ _ (by rw [List.length_drop]; omega), getD_drop]
        congr 3
        omega
  have HF := Lib.hid (And.intro hfin b2)
  have HO := Lib.hid hov
  have hz2 : ¬ ((i : Int) = (n : Int)) := by omega
  have hb1 : (0 : Int) ≤ (i : Int) + 1 := by omega
  have hin : i ≤ n := by omega
  have htn : ((i : Int) + 1).toNat = i + 1 := by omega
  have hw1 : IntKind.i64.wrap ((i : Int) + 1) = (i : Int) + 1 := by simp [IntKind.wrap, IntKind.bits, IntKind.signed]; omega
  have hb2 : ¬ (cap = i + 1) := by omega
  have hb3 : (i : Int) ≤ (n : Int) + 1 := by omega
  have hb4 : ¬ (cap = i) := by omega
  have hov' := hov _ (n - i) (cap - (i + 1)) rfl
  clear K V K1 V1 b1 K2 b2 hfin hW1 hj hov hdl hs1
  go_enter Tryz.func120, Tryz.ntmps120
  go_wp2_with (simp only [hov'])
  go_region_law (refine step_copy_runI rfl _ _ 34 34 rfl _ _ (by simp [Act.eval, Act.put]) (by simp [Act.eval, Act.put]) (hcp1 _ _ _) ?_)
  go_wp2_with (at_builtin; refine wpList_copy_runI _ rfl _ _ 34 34 rfl _ _ rfl rfl (hcp2 _ _) ?_)
  go_ret
  exact ⟨_, _, rfl, HF.out.1, HF.out.2⟩
set_option maxRecDepth 100000 in
set_option maxHeartbeats 4000000 in
theorem insertJob_grow (lo g n i vb : Nat) (cs : Array Value) (zs vs : List Int) (w : World) (K : Blk w g 71 cs) (hlo : lo ≤ g) (hcs : cs.size = n * 5) (hzl : zs.length = n * 5) (hj : ∀ j, j < n * 5 → cs[j]? = some (.int .i64 (zs.getD j 0)))
    (hi : i < n) (hn : n ≤ 1000) (hvl : vs.length = 5) (V : Blk w vb 71 (ints vs).toArray) :
    Calls Tryz.prog 120 #[.slice (some ⟨g, 0, none⟩) n n, .int .i64 (i : Nat), .slice (some ⟨vb, 0, none⟩) 1 1] w (InsResJob lo n i zs vs w) := by
  obtain ⟨i0, hi0, hz0, hzs, hzb⟩ := info_parts info_Job
  have hsz : (Tryz.prog.info? 71).map (·.size) = some 5 := by kernel_rfl
  have hz2 : ¬ ((i : Int) = (n : Int)) := by omega
  have hz3 : (n : Int) < (n : Int) + 1 := by omega
  have hkk : (n : Int) + 1 - (i : Int) = ((n + 1 - i : Nat) : Int) := by omega
  have hik : i + (n + 1 - i) = n + 1 := by omega
  have hgl := K.lt
  have hvw := V.lt
  have hold : (Builtin.firstCells i0.size i (.slice (some ⟨g, 0, none⟩) i n)).run Tryz.prog w.drew = .ok (ints (zs.take (i * 5))).toArray w.drew := by
    rw [hzs]
    refine run_firstCells_some w.drew 5 i ⟨g, 0, none⟩ i n _ (by rw [ints_length, List.length_take]; omega) (fun j v hjv => ?_)
    have ha : (⟨g, 0, none⟩ : Addr).add j = ⟨g, j, none⟩ := by unfold Addr.add; split <;> simp_all
    have hjl : j < (zs.take (i * 5)).length := by
      have := (List.getElem?_eq_some_iff.1 hjv).1
      rwa [ints_length] at this
    rw [ints_get _ j hjl] at hjv
    rw [List.length_take] at hjl
    rw [ha, K.drew.cell, hj _ (by omega), ← hjv, getD_take _ _ _ (by omega)]
  obtain ⟨G, hG⟩ : ∃ G, G = grownCap w (n + 1) n 71 := ⟨_, rfl⟩
  obtain ⟨ROW, hROW⟩ : ∃ ROW : Array Value, ROW = (ints (zs.take (i * 5))).toArray ++ Builtin.zeroCells ((.agg #[.int .i64 0, .int .i64 0, .int .i64 0, .int .i64 0, .int .i64 0]) : Value).cells (n + 1 - i) ++ Builtin.zeroCells ((.agg #[.int .i64 0, .int .i64 0, .int .i64 0, .int .i64 0, .int .i64 0]) : Value).cells (G - (n + 1)) := ⟨_, rfl⟩
  have hrz : ∀ ty, (Builtin.append_ #[34, 3] ty #[.slice (some ⟨g, 0, none⟩) i n, .int .i64 ((n : Int) + 1 - (i : Int))]).run Tryz.prog w =
      .ok (.slice (some ⟨w.heap.size, 0, none⟩) (n + 1) G) (w.drew.alloc (.cells ROW 71)) := fun ty => by
    have h := Lib.run_append_grow_zeros w 34 3 ty 71 i0 _ .i64 .i64 Tryz.underlying34 Tryz.underlying3 hi0 hz0 (some ⟨g, 0, none⟩) i n _ hold (n + 1 - i) (by omega) (by omega) (by omega) (by omega) (by rw [hzb]; omega) (by rw [hzb, hik]; exact growslice_fits (by omega) (by omega))
    rw [hik, ← hG] at h
    rw [hkk, hROW]
    exact h
  have hGn : n + 1 ≤ G := by rw [hG]; exact grownCap_ge w _ _ _
  have hGm : G ≤ maxLen := by
    rw [hG]
    exact grownCap_le_maxLen w (n + 1) n 71 (by unfold maxLen; omega)
  have hzc : ∀ k, (Builtin.zeroCells ((.agg #[.int .i64 0, .int .i64 0, .int .i64 0, .int .i64 0, .int .i64 0]) : Value).cells k).toList = zeros (k * 5) := fun k => zeroCells_flat (z := (.agg #[.int .i64 0, .int .i64 0, .int .i64 0, .int .i64 0, .int .i64 0])) (s := 5) rfl k
  have hzsz : ∀ k, (Builtin.zeroCells ((.agg #[.int .i64 0, .int .i64 0, .int .i64 0, .int .i64 0, .int .i64 0]) : Value).cells k).size = k * 5 := fun k => by rw [← Array.length_toList, hzc, zeros_length]
  have hRs : ROW.size = G * 5 := by
    rw [hROW, Array.size_append, Array.size_append, hzsz, hzsz]
    simp only [List.size_toArray, ints_length, List.length_take]
    omega
  have hRj : ∀ t, t < i * 5 → ROW[t]? = some (.int .i64 (zs.getD t 0)) := fun t ht => by
    rw [hROW, Array.getElem?_append_left (by rw [Array.size_append, hzsz]; simp only [List.size_toArray, ints_length, List.length_take]; omega), Array.getElem?_append_left (by simp only [List.size_toArray, ints_length, List.length_take]; omega), List.getElem?_toArray, ints_get _ _ (by rw [List.length_take]; omega), getD_take _ _ _ ht]
  have hlw : lo ≤ w.heap.size := by omega
  -- the three worlds
  obtain ⟨W1, hW1⟩ : ∃ W1, W1 = w.drew.alloc (.cells ROW 71) := ⟨_, rfl⟩
  rw [← hW1] at hrz
  have N1 : Blk W1 w.heap.size 71 ROW := by rw [hW1]; exact Blk.new w.drew _ _
  have K1 : Blk W1 g 71 cs := by rw [hW1]; exact K.drew.alloc _
  have V1 : Blk W1 vb 71 (ints vs).toArray := by rw [hW1]; exact V.drew.alloc _
  have b1 : Below lo w W1 := by rw [hW1]; exact Below.alloc (Below.drew (Below.refl _ _)) hlw _
  have hcpA : ∀ ty dc, (Builtin.copy_ #[34, 34] ty #[.slice (some ⟨w.heap.size, i * 5, none⟩) (n + 1 - i) dc, .slice (some ⟨vb, 0, none⟩) 1 1]).run Tryz.prog W1 = .ok (goInt ((1 : Nat) : Int)) (W1.setCells w.heap.size (i * 5) (ints vs)) := fun ty dc =>
    run_copy_flat W1 _ _ ty 71 5 1 w.heap.size (i * 5) (n + 1 - i) dc ⟨vb, 0, none⟩ 1 1 _ Tryz.underlying34 hsz (by simp only [Nat.min_def]; split <;> omega) (by rw [ints_length]; omega)
      (fun j v hjv => by
        have ha : (⟨vb, 0, none⟩ : Addr).add j = ⟨vb, j, none⟩ := by unfold Addr.add; split <;> simp_all
        rw [ha, V1.cell]
        simpa using hjv)
      (fun j hj' => by rw [ints_length] at hj'; obtain ⟨c, hc⟩ := N1.has (i := i * 5 + j) (by omega); rw [hc]; rfl) (fun j _ => N1.frozen _) (ints_oneCell' _)
  obtain ⟨W2, hW2⟩ : ∃ W2, W2 = W1.setCells w.heap.size (i * 5) (ints vs) := ⟨_, rfl⟩
  rw [← hW2] at hcpA
  have N2 : Blk W2 w.heap.size 71 (over ROW (i * 5) (ints vs)) := by rw [hW2]; exact Blk.over _ _ _ _ N1
  have K2 : Blk W2 g 71 cs := by rw [hW2]; exact (heap_setCells (by omega) _ _ _).trans K1
  have b2 : Below lo w W2 := by rw [hW2]; exact below_setCells hlw _ _ _ b1
  have hs2 : (over ROW (i * 5) (ints vs)).size = G * 5 := by rw [over_size, hRs]
  have hdl : (ints (zs.drop (i * 5))).length = (n - i) * 5 := by rw [ints_length, List.length_drop]; omega
  have hcpB : ∀ ty dc sc, (Builtin.copy_ #[34, 34] ty #[.slice (some ⟨w.heap.size, (i + 1) * 5, none⟩) (n - i) dc, .slice (some ⟨g, i * 5, none⟩) (n - i) sc]).run Tryz.prog W2.drew = .ok (goInt ((n - i : Nat) : Int)) (W2.drew.setCells w.heap.size ((i + 1) * 5) (ints (zs.drop (i * 5)))) := fun ty dc sc =>
    run_copy_flat W2.drew _ _ ty 71 5 (n - i) w.heap.size ((i + 1) * 5) (n - i) dc ⟨g, i * 5, none⟩ (n - i) sc _ Tryz.underlying34 hsz (by simp only [Nat.min_def]; split <;> omega) hdl
      (fun j v hjv => by
        have ha : (⟨g, i * 5, none⟩ : Addr).add j = ⟨g, i * 5 + j, none⟩ := by unfold Addr.add; split <;> simp_all
        have hjl : j < (zs.drop (i * 5)).length := by
          have := (List.getElem?_eq_some_iff.1 hjv).1
          rwa [ints_length] at this
        rw [ints_get _ j hjl] at hjv
        rw [List.length_drop] at hjl
        rw [ha, K2.drew.cell, hj _ (by omega), ← hjv, getD_drop])
      (fun j hj' => by rw [hdl] at hj'; obtain ⟨c, hc⟩ := N2.drew.has (i := (i + 1) * 5 + j) (by omega); rw [hc]; rfl) (fun j _ => N2.drew.frozen _) (ints_oneCell' _)
  obtain ⟨W3, hW3⟩ : ∃ W3, W3 = W2.drew.setCells w.heap.size ((i + 1) * 5) (ints (zs.drop (i * 5))) := ⟨_, rfl⟩
  rw [← hW3] at hcpB
  have N3 : Blk W3 w.heap.size 71 (over (over ROW (i * 5) (ints vs)) ((i + 1) * 5) (ints (zs.drop (i * 5)))) := by rw [hW3]; exact Blk.over _ _ _ _ N2.drew
  have b3 : Below lo w W3 := by rw [hW3]; exact below_setCells hlw _ _ _ (Below.drew b2)
  have hfin : Row W3 lo 71 5 (some ⟨w.heap.size, 0, none⟩) (n + 1) G (zs.take (i * 5) ++ vs ++ zs.drop (i * 5)) := by
    refine Row.of_blk N3 hlw hGn hGm (by rw [over_size, hs2]) (by simp; omega) (fun t ht => ?_)
    have hil : i * 5 ≤ n * 5 := Nat.mul_le_mul_right _ (by omega)
    have hGs : (n + 1) * 5 ≤ G * 5 := Nat.mul_le_mul_right _ hGn
    rw [ins_getD _ _ _ _ (by omega)]
    split
    · rename_i h1
      rw [over_out _ _ _ _ (.inl (by omega)), over_out _ _ _ _ (.inl h1), hRj t h1]
    · split
      · rename_i h1 h2
        rw [over_out _ _ _ _ (.inl (by omega)), show t = i * 5 + (t - i * 5) by omega, over_in _ _ _ _ (by rw [hRs, ints_length]; omega) (by rw [ints_length]; omega), ints_get _ _ (by omega)]
        congr 3
        omega
      · rename_i h1 h2
        rw [show t = (i + 1) * 5 + (t - (i + 1) * 5) by omega, over_in _ _ _ _ (by rw [hs2, hdl]; omega) (by rw [hdl]; omega), ints_get _ _ (by rw [List.length_drop]; omega), getD_drop]
        congr 3
        omega
  have HF := Lib.hid (And.intro hfin b3)
  unfold maxLen at hGm
  have hGi : ¬ (G = i) := by omega
  have hGim : ¬ (G = i + 1) := by omega
  have hci : ¬ (n = i) := by omega
  have hw1 : IntKind.i64.wrap ((i : Int) + 1) = (i : Int) + 1 := by simp [IntKind.wrap, IntKind.bits, IntKind.signed]; omega
  have hb1 : (0 : Int) ≤ (i : Int) + 1 := by omega
  have hin : i ≤ n := by omega
  have htn : ((i : Int) + 1).toNat = i + 1 := by omega
  have hb3 : (i : Int) ≤ (n : Int) := by omega
  clear K V N1 K1 V1 b1 N2 K2 b2 N3 b3 hfin hW1 hW2 hW3 hj hdl hs2 hRj hRs hzsz hzc hROW hG hold hkk hik
  go_enter Tryz.func120, Tryz.ntmps120
  go_wp2_with (first
    | (at_builtin; refine Lib.wpList_append_run _ rfl _ _ _ _ rfl _ _ rfl rfl _ _ (hrz _) ?_)
    | (at_builtin; refine wpList_copy_runI _ rfl _ _ 34 34 rfl _ _ rfl rfl (hcpA _ _) ?_))
  go_region_law (refine step_copy_runI rfl _ _ 34 34 rfl _ _ (by simp [Act.eval, Act.put]) (by simp [Act.eval, Act.put]) (hcpB _ _ _) ?_)
  go_wp2
  go_ret
  exact ⟨_, _, rfl, HF.out.1, HF.out.2⟩
/-- All three roads. -/
theorem insertJob_any (lo : Nat) (A : Option Addr) (n cap i vb : Nat) (zs vs : List Int) (w : World) (R : Row w lo 71 5 A n cap zs) (hlo : lo ≤ w.heap.size) (hn : n ≤ 1000) (hi : i ≤ n) (hvl : vs.length = 5) (V : Blk w vb 71 (ints vs).toArray) (hvb : ∀ a, A = some a → a.block ≠ vb) :
    Calls Tryz.prog 120 #[.slice A n cap, .int .i64 (i : Nat), .slice (some ⟨vb, 0, none⟩) 1 1] w (InsResJob lo n i zs vs w) := by
  by_cases hin : i = n
  · subst hin
    exact insertJob_end lo A i cap vb zs vs w R hlo hn hvl V
  · obtain ⟨g, cs, rfl, hlg, K, hnc, hcm, hcs, hj⟩ := R.blk (by omega)
    by_cases hroom : n + 1 ≤ cap
    · exact insertJob_shift lo g n cap i vb cs zs vs w K hlg hcs R.len hj hcm (by omega) hroom hvl V (Ne.symm (hvb _ rfl))
    · obtain rfl : cap = n := by omega
      exact insertJob_grow lo g cap i vb cs zs vs w K hlg hcs R.len hj (by omega) hn hvl V
end Go.Proofs.YtokklkmibjpjnaaGreat
namespace Go.Proofs.YtokklkmibjpjnaaGreat
set_option linter.unusedSimpArgs false
set_option linter.unusedVariables false
attribute [local go_sem] n_lt2 n_lt3 n_lt4 n_le2 n_le3
open Go.RowKit
attribute [local go_sem] Ext.cell Ext.frozen

theorem addR_no {l : List Jb} {x : Jb} (h : jobsB l = true) (hn : addOk l x = false) : addR l x = (l, false) := by unfold addR; rw [if_pos h, if_neg (by rw [hn]; decide)]
theorem addR_yes {l : List Jb} {x : Jb} (h : jobsB l = true) (hn : addOk l x = true) : addR l x = (addL l x, true) := by unfold addR; rw [if_pos h, if_pos hn]
theorem boxed5 {w : World} {g : Nat} {E : TypeId} {a b c d e : Int} (K : Blk w g E #[.int .i64 a, .int .i64 b, .int .i64 c, .int .i64 d, .int .i64 e]) :
    w.cell? ⟨g, 0, none⟩ = some (.int .i64 a) ∧ w.cell? ⟨g, 1, none⟩ = some (.int .i64 b) ∧ w.cell? ⟨g, 2, none⟩ = some (.int .i64 c) ∧ w.cell? ⟨g, 3, none⟩ = some (.int .i64 d) ∧ w.cell? ⟨g, 4, none⟩ = some (.int .i64 e) :=
  ⟨K.cell 0, K.cell 1, K.cell 2, K.cell 3, K.cell 4⟩
set_option maxRecDepth 100000 in
set_option maxHeartbeats 4000000 in
theorem jobAdded_walk (A : Option Addr) (n cap : Nat) (l : List Jb) (x0 x1 x2 x3 x4 : Int) (w : World) (hS : Sl w 5 A n (JB l)) (hl : l.length = n) (hn : n ≤ maxLen) (hA : A = none → n = 0 ∧ cap = 0) :
    Calls Tryz.prog 102 #[.slice A n cap, .agg #[.int .i64 x0, .int .i64 x1, .int .i64 x2, .int .i64 x3, .int .i64 x4]] w (RetJobs w (addR l ⟨x0, x1, x2, x3, x4⟩)) := by
  by_cases hpa : jobsB l = true
  · have h8 : n ≤ 8 := by have := (jobsB_all hpa).1; omega
    have HL := Lib.hid hl
    have HS := Lib.hid hS
    have HPA := Lib.hid hpa
    obtain ⟨⟨⟨y0, y1, y2, y3, y4⟩, u⟩, hva⟩ : ∃ v, jobAtV l x0 = v := ⟨_, rfl⟩
    have HVA := Lib.hid hva
    have hu : (jobAtV l x0).2 = u := by rw [hva]
    have HU := Lib.hid hu
    clear hpa hl hS hva hu
    go_enter Tryz.func102, Tryz.ntmps102
    go_wp2_with fail
    refine calls_named ?_
    rintro w0 hw0
    have K0 : Blk w0 w.heap.size 71 #[.int .i64 x0, .int .i64 x1, .int .i64 x2, .int .i64 x3, .int .i64 x4] := by rw [hw0]; exact Blk.new _ _ _
    have b0 : Below w.heap.size w w0 := by rw [hw0]; (repeat' (first | (with_reducible exact Below.refl _ _) | (with_reducible assumption) | (with_reducible refine Below.alloc ?_ ?_ _) | (with_reducible refine Below.drew ?_) | (with_reducible refine Below.setCell ?_ ?_ _) | (with_reducible refine bstep (by assumption) ?_ ?_) | (with_reducible exact Nat.le_refl _) | omega | (simp [*]; done) | (simp [*]; omega)))
    clear hw0
    have c1 := jobsOk_any A n cap l w0 (HS.out.below b0) HL.out hn
    rw [HPA.out] at c1
    refine c1.mono ?_
    rintro e w1 ⟨rfl, b1⟩
    have K1 := K0.below b1
    have f1 := bthen b0 b1
    clear K0 b0 b1 c1
    go_wp2_with fail
    refine (copyJobs_any A n cap l w1 (HS.out.below f1) HL.out (by omega) hA).mono ?_
    rintro e w2 ⟨A2, cap2, rfl, R2, b2⟩
    have K2 := K1.below b2
    have R2 := R2.mono f1.size
    have f2 := bthen f1 b2
    clear K1 f1 b2
    have c3 := jobAtV_any A n cap l x0 w2 (HS.out.below f2) HL.out hn
    rw [HVA.out] at c3
    have q0 := (boxed5 K2).1
    have lt2 := K2.lt
    go_wp2_with fail
    refine c3.mono ?_
    rintro e w3 ⟨rfl, b3⟩
    have K3 := K2.below b3
    have R3 := R2.below b3
    have f3 := bthen f2 b3
    clear q0 lt2 c3 K2 R2 f2 b3
    have lt3 := K3.lt
    obtain ⟨q0, q1, q2, q3, q4⟩ := boxed5 K3
    have HK3 := Lib.hid K3
    have HR3 := Lib.hid R3
    have hs3 := f3.size
    clear K3 R3
    cases u
    · by_cases hok : jobB x0 x1 x2 x3 x4 = true
      · go_wp2_with fail
        refine (jobOk_any _ _ _ _ _ _).mono ?_
        rintro e w4 ⟨rfl, b4⟩
        have K4 := (HK3.out.alloc _).below b4
        have R4 : Row w4 w.heap.size 71 5 A2 n cap2 (JB l) := Row.below (World.ownsRow.alloc HR3.out _) b4
        have f4 := bstep b4 (f3.alloc hs3 _) (by simp; omega)
        clear q0 q1 q2 q3 q4 lt3 b4 f3 HK3 HR3 hs3
        rw [hok]
        have lt4 := K4.lt
        obtain ⟨q0, q1, q2, q3, q4⟩ := boxed5 K4
        have HK4 := Lib.hid K4
        have HR4 := Lib.hid R4
        have hs4 := f4.size
        clear K4 R4
        go_wp2_with fail
        refine (open_any _ _ _ _ _ _).mono ?_
        rintro e w5 ⟨rfl, b5⟩
        have K5 := HK4.out.below b5
        have R5 := HR4.out.below b5
        have f5 := bthen f4 b5
        clear q0 q1 q2 q3 q4 lt4 b5 f4 HK4 HR4 hs4
        by_cases hf : x4 = 0
        · have hd := decide_eq_true hf
          rw [hd]
          have HF0 := Lib.hid hf
          clear hd hf
          by_cases hn8 : n = 8
          · have HF := Lib.hid (addR_no (x := ⟨x0, x1, x2, x3, x4⟩) HPA.out (by unfold addOk; rw [decide_eq_false (show ¬ l.length < 8 by have := HL.out; omega)]; simp))
            have hn8' : ((n : Int) == 8) = true := by simp; omega
            have hnn : (n : Int) = 8 := by omega
            clear hnn
            go_wp2
            refine bodyPost_ret (v := .tuple #[.slice A2 n cap2, .bool false]) (by simp [results, Tryz.results102, go_sem, *]) rfl ?_
            exact retJobs HF.out HL.out.symm R5 f5
          · have hyes : addOk l ⟨x0, x1, x2, x3, x4⟩ = true := by
              have hlt8 : l.length < 8 := by have := HL.out; omega
              have h2 := HU.out
              have h3 := HF0.out
              unfold addOk jobOkB
              simp only
              rw [hok, h2, decide_eq_true h3, decide_eq_true hlt8]
              rfl
            have HF := Lib.hid (addR_yes HPA.out hyes)
            have hn8' : ((n : Int) == 8) = false := by simp; omega
            have hn8i : ¬ (n : Int) = 8 := by omega
            have hltA := R5.lt
            have HR5 := Lib.hid R5
            have HK5 := Lib.hid K5
            have HLA := Lib.hid hltA
            clear R5 K5 hltA hyes
            go_wp2
            go_loopw [9] (fun i wr => ∃ k : Nat, k ≤ n ∧ i = .int .i64 (k : Nat) ∧ Below w5.heap.size w5 wr ∧ Hid (∀ j, j < k → (l.getD j default).i < x0)) (fun i _ => n - (intOf i).toNat)
            case atStart => exact ⟨0, Nat.zero_le _, rfl, Below.refl _ _, fun j hj => absurd hj (by omega)⟩
            case round =>
              obtain ⟨k, hk, rfl, hbl, hall⟩ := hrel
              have Kr := HK5.out.below hbl
              have Rr := HR5.out.below hbl
              have fr := bthen f5 hbl
              have hsr := fr.size
              have ltr := Kr.lt
              obtain ⟨q0, q1, q2, q3, q4⟩ := boxed5 Kr
              have HRr := Lib.hid Rr
              clear Kr Rr
              by_cases hlt : k < n
              · obtain ⟨g, cs, rfl, hlg, K, hcs, hj, hcell⟩ := HRr.out.cells5 HL.out (by omega)
                obtain ⟨h0, _, _, _, _⟩ := hcell k hlt
                have hgl := K.lt
                have hlt' : (k : Int) < (n : Int) := by omega
                have hd : decide ((k : Int) < (n : Int)) = true := decide_eq_true hlt'
                have hcp := HRr.out.cap_le
                have hcm : cap2 ≤ 9223372036854775807 := by have := hcp.2; unfold maxLen at this; omega
                have hcn := hcp.1
                generalize hy : (l.getD k default).i = z at h0
                have HY := Lib.hid hy
                clear hcell hj hcs K hcp hy
                by_cases hz : z < x0
                · have hzd : decide (z < x0) = true := decide_eq_true hz
                  go_wp2
                  go_quiet (fail)
                  go_wp2
                  exact ⟨⟨k + 1, by omega, by go_num, below_drewN hbl _, Lib.hid (fun j hjk => by
                    rcases Nat.lt_or_ge j k with h | h
                    · exact hall.out j h
                    · obtain rfl : j = k := by omega
                      rw [HY.out]; exact hz)⟩, by simp [intOf]; omega⟩
                · have hzd : decide (z < x0) = false := decide_eq_false hz
                  have HE := Lib.hid (addL_ins k l ⟨x0, x1, x2, x3, x4⟩ (by have := HL.out; omega) hall.out (fun _ => by rw [HY.out]; exact hz))
                  go_wp2
                  go_quiet (fail)
                  go_wp2_with fail
                  refine calls_named ?_
                  rintro wq hwq
                  have Rq : Row wq w.heap.size 71 5 (some ⟨g, 0, none⟩) n cap2 (JB l) := by rw [hwq]; exact World.ownsRow.alloc HRr.out _
                  have V : Blk wq wr.heap.size 71 (ints [x0, x1, x2, x3, x4]).toArray := by rw [hwq]; exact Blk.new _ _ _
                  have fq : Below w.heap.size w wq := by rw [hwq]; exact (below_drewN fr _).alloc hsr _
                  clear hwq
                  refine (insertJob_any w.heap.size (some ⟨g, 0, none⟩) n cap2 k wr.heap.size (JB l) [x0, x1, x2, x3, x4] wq Rq fq.size (by omega) hk rfl V (fun a ha => by obtain rfl := Option.some.inj ha; exact Nat.ne_of_lt hgl)).mono ?_
                  rintro e w7 ⟨A7, c7, rfl, R7, b7⟩
                  go_wp2
                  refine bodyPost_ret (v := .tuple #[.slice A7 (n + 1) c7, .bool true]) (by simp [results, Tryz.results102, go_sem, *]) rfl ?_
                  rw [← JB_ins l k ⟨x0, x1, x2, x3, x4⟩] at R7
                  refine retJobs (HF.out.trans (by rw [HE.out])) ?_ R7 (fq.trans b7)
                  have := HL.out
                  simp; omega
              · obtain rfl : k = n := by omega
                have hd : decide ((k : Int) < (k : Int)) = false := decide_eq_false (by omega)
                have HE := Lib.hid (addL_ins k l ⟨x0, x1, x2, x3, x4⟩ (by have := HL.out; omega) hall.out (fun h => absurd h (by have := HL.out; omega)))
                go_wp2
                go_quiet (fail)
                go_wp2_with fail
                refine calls_named ?_
                rintro wq hwq
                have Rq : Row wq w.heap.size 71 5 A2 k cap2 (JB l) := by rw [hwq]; exact World.ownsRow.alloc HRr.out _
                have V : Blk wq wr.heap.size 71 (ints [x0, x1, x2, x3, x4]).toArray := by rw [hwq]; exact Blk.new _ _ _
                have fq : Below w.heap.size w wq := by rw [hwq]; exact (below_drewN fr _).alloc hsr _
                have hll := HRr.out.lt
                clear hwq
                refine (insertJob_any w.heap.size A2 k cap2 k wr.heap.size (JB l) [x0, x1, x2, x3, x4] wq Rq fq.size (by omega) hk rfl V (fun a ha => Nat.ne_of_lt (hll a ha))).mono ?_
                rintro e w7 ⟨A7, c7, rfl, R7, b7⟩
                go_wp2
                refine bodyPost_ret (v := .tuple #[.slice A7 (k + 1) c7, .bool true]) (by simp [results, Tryz.results102, go_sem, *]) rfl ?_
                rw [← JB_ins l k ⟨x0, x1, x2, x3, x4⟩] at R7
                refine retJobs (HF.out.trans (by rw [HE.out])) ?_ R7 (fq.trans b7)
                have := HL.out
                simp; omega
        · have hd := decide_eq_false hf
          rw [hd]
          have HF := Lib.hid (addR_no (x := ⟨x0, x1, x2, x3, x4⟩) HPA.out (by unfold addOk; simp only; rw [decide_eq_false hf]; simp))
          clear hd hf
          go_wp2
          refine bodyPost_ret (v := .tuple #[.slice A2 n cap2, .bool false]) (by simp [results, Tryz.results102, go_sem, *]) rfl ?_
          exact retJobs HF.out HL.out.symm R5 f5
      · have hok' : jobB x0 x1 x2 x3 x4 = false := by simpa using hok
        have HF := Lib.hid (addR_no (x := ⟨x0, x1, x2, x3, x4⟩) HPA.out (by unfold addOk jobOkB; simp only; rw [hok']; simp))
        clear hok
        go_wp2_with fail
        refine (jobOk_any _ _ _ _ _ _).mono ?_
        rintro e w4 ⟨rfl, b4⟩
        have R4 : Row w4 w.heap.size 71 5 A2 n cap2 (JB l) := Row.below (World.ownsRow.alloc HR3.out _) b4
        have f4 := bstep b4 (f3.alloc hs3 _) (by simp; omega)
        rw [hok']
        clear q0 q1 q2 q3 q4 lt3 b4 f3 HK3 HR3 hs3
        go_wp2
        refine bodyPost_ret (v := .tuple #[.slice A2 n cap2, .bool false]) (by simp [results, Tryz.results102, go_sem, *]) rfl ?_
        exact retJobs HF.out HL.out.symm R4 f4
    · have HF := Lib.hid (addR_no (x := ⟨x0, x1, x2, x3, x4⟩) HPA.out (by have h2 := HU.out; unfold addOk; simp only; rw [h2]; simp))
      go_wp2
      refine bodyPost_ret (v := .tuple #[.slice A2 n cap2, .bool false]) (by simp [results, Tryz.results102, go_sem, *]) rfl ?_
      exact retJobs HF.out HL.out.symm (World.ownsRow.alloc HR3.out _) (f3.alloc hs3 _)
  · have hpa' : jobsB l = false := by simpa using hpa
    have HF := Lib.hid (show addR l ⟨x0, x1, x2, x3, x4⟩ = ([], false) by unfold addR; rw [if_neg hpa])
    go_enter Tryz.func102, Tryz.ntmps102
    go_wp2_with fail
    refine calls_named ?_
    rintro w0 hw0
    have b0 : Below w.heap.size w w0 := by rw [hw0]; (repeat' (first | (with_reducible exact Below.refl _ _) | (with_reducible assumption) | (with_reducible refine Below.alloc ?_ ?_ _) | (with_reducible refine Below.drew ?_) | (with_reducible refine Below.setCell ?_ ?_ _) | (with_reducible refine bstep (by assumption) ?_ ?_) | (with_reducible exact Nat.le_refl _) | omega | (simp [*]; done) | (simp [*]; omega)))
    clear hw0
    have c1 := jobsOk_any A n cap l w0 (hS.below b0) hl hn
    rw [hpa'] at c1
    refine c1.mono ?_
    rintro e w1 ⟨rfl, b1⟩
    go_wp2
    refine bodyPost_ret (v := .tuple #[.slice none 0 0, .bool false]) (by simp [results, Tryz.results102, go_sem, *]) rfl ?_
    exact retJobs HF.out rfl (Row.nil _ _ _ _) (bthen b0 b1)
end Go.Proofs.YtokklkmibjpjnaaGreat

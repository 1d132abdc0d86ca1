/- Entries and the next entry of a state: EntryOk, nextIn, NextIn, the program's and the reference's. -/
import Derived.Test.YtodkcanhlpgpgaaS1
import Derived.Test.YtodkcanhlpgpgaaC1
namespace Go.Proofs.Ytodkcanhlpgpgaa
set_option linter.unusedSimpArgs false
set_option linter.unusedVariables false
attribute [local go_sem] n_lt2 n_lt3 n_lt4 n_le2 n_le3
open Go.RowKit
def entryB (ex et ec es ek ea eb eg eh : Int) : Bool := inB ex 1 2000 && (inB et 0 1000000 && (inB ec 2 5 && (inB es 1 2000 && opB ek ea eb eg eh)))
def nextB (i0 t0 ex et ec es ek ea eb eg eh : Int) : Bool := entryB ex et ec es ek ea eb eg eh && ((ex == i0 + 1) && decide (t0 ≤ et))
def nextInB (i0 t0 l0 l1 l2 : Int) (pl : List Pr) (ql : List Jb) (ex et ec es ek ea eb eg eh : Int) : Bool := stateB i0 t0 l0 l1 l2 pl ql && nextB i0 t0 ex et ec es ek ea eb eg eh
theorem stateB_i {i0 t0 l0 l1 l2 : Int} {pl : List Pr} {ql : List Jb} (h : stateB i0 t0 l0 l1 l2 pl ql = true) : 0 ≤ i0 ∧ i0 ≤ 2000 := by
  unfold stateB at h
  simp only [Bool.and_eq_true, inB_iff] at h
  exact h.1
attribute [local go_sem] Ext.cell Ext.frozen
set_option maxRecDepth 100000 in
set_option maxHeartbeats 2000000 in
theorem entryOk_any (ex et ec es ek ea eb eg eh : Int) (w : World) :
    Calls Try.prog 106 #[.agg #[.int .i64 ex, .int .i64 et, .int .i64 ec, .int .i64 es, .int .i64 ek, .int .i64 ea, .int .i64 eb, .int .i64 eg, .int .i64 eh]] w fun e' w' => e' = .returned (.bool (entryB ex et ec es ek ea eb eg eh)) ∧ Below w.heap.size w w' := by
  go_enter Try.func106, Try.ntmps106
  go_wp2_with fail
  refine calls_named ?_
  rintro v0 hv0
  have f0 : Below w.heap.size w v0 := by rw [hv0]; (repeat' (first | (with_reducible exact Below.refl _ _) | (with_reducible assumption) | (with_reducible refine Below.alloc ?_ ?_ _) | (with_reducible refine Below.drew ?_) | (with_reducible refine Below.setCell ?_ ?_ _) | (with_reducible refine bstep (by assumption) ?_ ?_) | (with_reducible exact Nat.le_refl _) | omega | (simp [*]; done) | (simp [*]; omega)))
  have z0 : w.heap.size + 1 ≤ v0.heap.size := by rw [hv0]; simp [size_set]
  have Ha_0 : Hid (Blk v0 w.heap.size 46 #[.int .i64 ex, .int .i64 et, .int .i64 ec, .int .i64 es, .int .i64 ek, .int .i64 ea, .int .i64 eb, .int .i64 eg, .int .i64 eh]) := by rw [hv0]; exact Blk.new_at _ _ _ _ (by simp)
  clear hv0
  have lt_a := Ha_0.out.lt
  have r_a0 : v0.cell? ⟨w.heap.size, 0, none⟩ = some (.int .i64 ex) := Ha_0.out.cell 0
  have r_a1 : v0.cell? ⟨w.heap.size, 1, none⟩ = some (.int .i64 et) := Ha_0.out.cell 1
  have r_a2 : v0.cell? ⟨w.heap.size, 2, none⟩ = some (.int .i64 ec) := Ha_0.out.cell 2
  have r_a3 : v0.cell? ⟨w.heap.size, 3, none⟩ = some (.int .i64 es) := Ha_0.out.cell 3
  have r_a4 : v0.cell? ⟨w.heap.size, 4, none⟩ = some (.int .i64 ek) := Ha_0.out.cell 4
  have r_a5 : v0.cell? ⟨w.heap.size, 5, none⟩ = some (.int .i64 ea) := Ha_0.out.cell 5
  have r_a6 : v0.cell? ⟨w.heap.size, 6, none⟩ = some (.int .i64 eb) := Ha_0.out.cell 6
  have r_a7 : v0.cell? ⟨w.heap.size, 7, none⟩ = some (.int .i64 eg) := Ha_0.out.cell 7
  have r_a8 : v0.cell? ⟨w.heap.size, 8, none⟩ = some (.int .i64 eh) := Ha_0.out.cell 8
  have cc := indexOk_any ex v0
  cases q1 : (inB ex 1 2000) with
  | false =>
    rw [q1] at cc
    have Hq1 := Lib.hid q1
    clear q1
    refine (cc).mono ?_
    rintro e v' ⟨rfl, rfl⟩
    have hv : entryB ex et ec es ek ea eb eg eh = false := by unfold entryB; rw [Hq1.out]; simp
    have HV := Lib.hid hv
    clear hv
    go_wp21
    go_ret
    exact ⟨ret_bool HV.out.symm, f0⟩
  | true =>
    rw [q1] at cc
    have Hq1 := Lib.hid q1
    clear q1
    refine (cc).mono ?_
    rintro e v' ⟨rfl, rfl⟩
    clear cc
    have cc := timeOk_any et v0
    cases q2 : (inB et 0 1000000) with
    | false =>
      rw [q2] at cc
      have Hq2 := Lib.hid q2
      clear q2
      go_wp2_with fail
      refine (cc).mono ?_
      rintro e v' ⟨rfl, rfl⟩
      have hv : entryB ex et ec es ek ea eb eg eh = false := by unfold entryB; rw [Hq1.out, Hq2.out]; simp
      have HV := Lib.hid hv
      clear hv
      go_wp21
      go_ret
      exact ⟨ret_bool HV.out.symm, f0⟩
    | true =>
      rw [q2] at cc
      have Hq2 := Lib.hid q2
      clear q2
      go_wp2_with fail
      refine (cc).mono ?_
      rintro e v' ⟨rfl, rfl⟩
      clear cc
      have cc := askerOk_any ec v0
      cases q3 : (inB ec 2 5) with
      | false =>
        rw [q3] at cc
        have Hq3 := Lib.hid q3
        clear q3
        go_wp2_with fail
        refine (cc).mono ?_
        rintro e v' ⟨rfl, rfl⟩
        have hv : entryB ex et ec es ek ea eb eg eh = false := by unfold entryB; rw [Hq1.out, Hq2.out, Hq3.out]; simp
        have HV := Lib.hid hv
        clear hv
        go_wp21
        go_ret
        exact ⟨ret_bool HV.out.symm, f0⟩
      | true =>
        rw [q3] at cc
        have Hq3 := Lib.hid q3
        clear q3
        go_wp2_with fail
        refine (cc).mono ?_
        rintro e v' ⟨rfl, rfl⟩
        clear cc
        have cc := seqOk_any es v0
        cases q4 : (inB es 1 2000) with
        | false =>
          rw [q4] at cc
          have Hq4 := Lib.hid q4
          clear q4
          go_wp2_with fail
          refine (cc).mono ?_
          rintro e v' ⟨rfl, rfl⟩
          have hv : entryB ex et ec es ek ea eb eg eh = false := by unfold entryB; rw [Hq1.out, Hq2.out, Hq3.out, Hq4.out]; simp
          have HV := Lib.hid hv
          clear hv
          go_wp21
          go_ret
          exact ⟨ret_bool HV.out.symm, f0⟩
        | true =>
          rw [q4] at cc
          have Hq4 := Lib.hid q4
          clear q4
          go_wp2_with fail
          refine (cc).mono ?_
          rintro e v' ⟨rfl, rfl⟩
          clear cc
          have cc := opOk_any ek ea eb eg eh v0
          cases q5 : (opB ek ea eb eg eh) with
          | false =>
            rw [q5] at cc
            have Hq5 := Lib.hid q5
            clear q5
            go_wp2_with fail
            refine (cc).mono ?_
            rintro e v1 ⟨rfl, b1⟩
            have f1 := bthen f0 b1
            have z1 := b1.size
            have Ha_1 := Lib.hid (Ha_0.out.below b1)
            clear lt_a r_a0 r_a1 r_a2 r_a3 r_a4 r_a5 r_a6 r_a7 r_a8
            clear Ha_0
            have lt_a := Ha_1.out.lt
            have r_a0 : v1.cell? ⟨w.heap.size, 0, none⟩ = some (.int .i64 ex) := Ha_1.out.cell 0
            have r_a1 : v1.cell? ⟨w.heap.size, 1, none⟩ = some (.int .i64 et) := Ha_1.out.cell 1
            have r_a2 : v1.cell? ⟨w.heap.size, 2, none⟩ = some (.int .i64 ec) := Ha_1.out.cell 2
            have r_a3 : v1.cell? ⟨w.heap.size, 3, none⟩ = some (.int .i64 es) := Ha_1.out.cell 3
            have r_a4 : v1.cell? ⟨w.heap.size, 4, none⟩ = some (.int .i64 ek) := Ha_1.out.cell 4
            have r_a5 : v1.cell? ⟨w.heap.size, 5, none⟩ = some (.int .i64 ea) := Ha_1.out.cell 5
            have r_a6 : v1.cell? ⟨w.heap.size, 6, none⟩ = some (.int .i64 eb) := Ha_1.out.cell 6
            have r_a7 : v1.cell? ⟨w.heap.size, 7, none⟩ = some (.int .i64 eg) := Ha_1.out.cell 7
            have r_a8 : v1.cell? ⟨w.heap.size, 8, none⟩ = some (.int .i64 eh) := Ha_1.out.cell 8
            have hv : entryB ex et ec es ek ea eb eg eh = false := by unfold entryB; rw [Hq1.out, Hq2.out, Hq3.out, Hq4.out, Hq5.out]; simp
            have HV := Lib.hid hv
            clear hv
            go_wp21
            go_ret
            exact ⟨ret_bool HV.out.symm, f1⟩
          | true =>
            rw [q5] at cc
            have Hq5 := Lib.hid q5
            clear q5
            go_wp2_with fail
            refine (cc).mono ?_
            rintro e v1 ⟨rfl, b1⟩
            have f1 := bthen f0 b1
            have z1 := b1.size
            have Ha_1 := Lib.hid (Ha_0.out.below b1)
            clear lt_a r_a0 r_a1 r_a2 r_a3 r_a4 r_a5 r_a6 r_a7 r_a8
            clear Ha_0
            have lt_a := Ha_1.out.lt
            have r_a0 : v1.cell? ⟨w.heap.size, 0, none⟩ = some (.int .i64 ex) := Ha_1.out.cell 0
            have r_a1 : v1.cell? ⟨w.heap.size, 1, none⟩ = some (.int .i64 et) := Ha_1.out.cell 1
            have r_a2 : v1.cell? ⟨w.heap.size, 2, none⟩ = some (.int .i64 ec) := Ha_1.out.cell 2
            have r_a3 : v1.cell? ⟨w.heap.size, 3, none⟩ = some (.int .i64 es) := Ha_1.out.cell 3
            have r_a4 : v1.cell? ⟨w.heap.size, 4, none⟩ = some (.int .i64 ek) := Ha_1.out.cell 4
            have r_a5 : v1.cell? ⟨w.heap.size, 5, none⟩ = some (.int .i64 ea) := Ha_1.out.cell 5
            have r_a6 : v1.cell? ⟨w.heap.size, 6, none⟩ = some (.int .i64 eb) := Ha_1.out.cell 6
            have r_a7 : v1.cell? ⟨w.heap.size, 7, none⟩ = some (.int .i64 eg) := Ha_1.out.cell 7
            have r_a8 : v1.cell? ⟨w.heap.size, 8, none⟩ = some (.int .i64 eh) := Ha_1.out.cell 8
            clear cc
            have hv : entryB ex et ec es ek ea eb eg eh = true := by unfold entryB; rw [Hq1.out, Hq2.out, Hq3.out, Hq4.out, Hq5.out]; rfl
            have HV := Lib.hid hv
            clear hv
            go_wp21
            go_ret
            exact ⟨ret_bool HV.out.symm, f1⟩
set_option maxRecDepth 100000 in
set_option maxHeartbeats 2000000 in
theorem specEntryOk_any (ex et ec es ek ea eb eg eh : Int) (w : World) :
    Calls Try.prog 57 #[.agg #[.int .i64 ex, .int .i64 et, .int .i64 ec, .int .i64 es, .int .i64 ek, .int .i64 ea, .int .i64 eb, .int .i64 eg, .int .i64 eh]] w fun e' w' => e' = .returned (.bool (entryB ex et ec es ek ea eb eg eh)) ∧ Below w.heap.size w w' := by
  go_enter Try.func57, Try.ntmps57
  go_wp2_with fail
  refine calls_named ?_
  rintro v0 hv0
  have f0 : Below w.heap.size w v0 := by rw [hv0]; (repeat' (first | (with_reducible exact Below.refl _ _) | (with_reducible assumption) | (with_reducible refine Below.alloc ?_ ?_ _) | (with_reducible refine Below.drew ?_) | (with_reducible refine Below.setCell ?_ ?_ _) | (with_reducible refine bstep (by assumption) ?_ ?_) | (with_reducible exact Nat.le_refl _) | omega | (simp [*]; done) | (simp [*]; omega)))
  have z0 : w.heap.size + 1 ≤ v0.heap.size := by rw [hv0]; simp [size_set]
  have Ha_0 : Hid (Blk v0 w.heap.size 46 #[.int .i64 ex, .int .i64 et, .int .i64 ec, .int .i64 es, .int .i64 ek, .int .i64 ea, .int .i64 eb, .int .i64 eg, .int .i64 eh]) := by rw [hv0]; exact Blk.new_at _ _ _ _ (by simp)
  clear hv0
  have lt_a := Ha_0.out.lt
  have r_a0 : v0.cell? ⟨w.heap.size, 0, none⟩ = some (.int .i64 ex) := Ha_0.out.cell 0
  have r_a1 : v0.cell? ⟨w.heap.size, 1, none⟩ = some (.int .i64 et) := Ha_0.out.cell 1
  have r_a2 : v0.cell? ⟨w.heap.size, 2, none⟩ = some (.int .i64 ec) := Ha_0.out.cell 2
  have r_a3 : v0.cell? ⟨w.heap.size, 3, none⟩ = some (.int .i64 es) := Ha_0.out.cell 3
  have r_a4 : v0.cell? ⟨w.heap.size, 4, none⟩ = some (.int .i64 ek) := Ha_0.out.cell 4
  have r_a5 : v0.cell? ⟨w.heap.size, 5, none⟩ = some (.int .i64 ea) := Ha_0.out.cell 5
  have r_a6 : v0.cell? ⟨w.heap.size, 6, none⟩ = some (.int .i64 eb) := Ha_0.out.cell 6
  have r_a7 : v0.cell? ⟨w.heap.size, 7, none⟩ = some (.int .i64 eg) := Ha_0.out.cell 7
  have r_a8 : v0.cell? ⟨w.heap.size, 8, none⟩ = some (.int .i64 eh) := Ha_0.out.cell 8
  have cc := l7Index_any ex v0
  cases q1 : (inB ex 1 2000) with
  | false =>
    rw [q1] at cc
    have Hq1 := Lib.hid q1
    clear q1
    refine (cc).mono ?_
    rintro e v' ⟨rfl, rfl⟩
    have hv : entryB ex et ec es ek ea eb eg eh = false := by unfold entryB; rw [Hq1.out]; simp
    have HV := Lib.hid hv
    clear hv
    go_wp21
    go_ret
    exact ⟨ret_bool HV.out.symm, f0⟩
  | true =>
    rw [q1] at cc
    have Hq1 := Lib.hid q1
    clear q1
    refine (cc).mono ?_
    rintro e v' ⟨rfl, rfl⟩
    clear cc
    have cc := specTimeOk_any et v0
    cases q2 : (inB et 0 1000000) with
    | false =>
      rw [q2] at cc
      have Hq2 := Lib.hid q2
      clear q2
      go_wp2_with fail
      refine (cc).mono ?_
      rintro e v' ⟨rfl, rfl⟩
      have hv : entryB ex et ec es ek ea eb eg eh = false := by unfold entryB; rw [Hq1.out, Hq2.out]; simp
      have HV := Lib.hid hv
      clear hv
      go_wp21
      go_ret
      exact ⟨ret_bool HV.out.symm, f0⟩
    | true =>
      rw [q2] at cc
      have Hq2 := Lib.hid q2
      clear q2
      go_wp2_with fail
      refine (cc).mono ?_
      rintro e v' ⟨rfl, rfl⟩
      clear cc
      have cc := specAskerOk_any ec v0
      cases q3 : (inB ec 2 5) with
      | false =>
        rw [q3] at cc
        have Hq3 := Lib.hid q3
        clear q3
        go_wp2_with fail
        refine (cc).mono ?_
        rintro e v' ⟨rfl, rfl⟩
        have hv : entryB ex et ec es ek ea eb eg eh = false := by unfold entryB; rw [Hq1.out, Hq2.out, Hq3.out]; simp
        have HV := Lib.hid hv
        clear hv
        go_wp21
        go_ret
        exact ⟨ret_bool HV.out.symm, f0⟩
      | true =>
        rw [q3] at cc
        have Hq3 := Lib.hid q3
        clear q3
        go_wp2_with fail
        refine (cc).mono ?_
        rintro e v' ⟨rfl, rfl⟩
        clear cc
        have cc := l7Seq_any es v0
        cases q4 : (inB es 1 2000) with
        | false =>
          rw [q4] at cc
          have Hq4 := Lib.hid q4
          clear q4
          go_wp2_with fail
          refine (cc).mono ?_
          rintro e v' ⟨rfl, rfl⟩
          have hv : entryB ex et ec es ek ea eb eg eh = false := by unfold entryB; rw [Hq1.out, Hq2.out, Hq3.out, Hq4.out]; simp
          have HV := Lib.hid hv
          clear hv
          go_wp21
          go_ret
          exact ⟨ret_bool HV.out.symm, f0⟩
        | true =>
          rw [q4] at cc
          have Hq4 := Lib.hid q4
          clear q4
          go_wp2_with fail
          refine (cc).mono ?_
          rintro e v' ⟨rfl, rfl⟩
          clear cc
          have cc := specOpOk_any ek ea eb eg eh v0
          cases q5 : (opB ek ea eb eg eh) with
          | false =>
            rw [q5] at cc
            have Hq5 := Lib.hid q5
            clear q5
            go_wp2_with fail
            refine (cc).mono ?_
            rintro e v1 ⟨rfl, b1⟩
            have f1 := bthen f0 b1
            have z1 := b1.size
            have Ha_1 := Lib.hid (Ha_0.out.below b1)
            clear lt_a r_a0 r_a1 r_a2 r_a3 r_a4 r_a5 r_a6 r_a7 r_a8
            clear Ha_0
            have lt_a := Ha_1.out.lt
            have r_a0 : v1.cell? ⟨w.heap.size, 0, none⟩ = some (.int .i64 ex) := Ha_1.out.cell 0
            have r_a1 : v1.cell? ⟨w.heap.size, 1, none⟩ = some (.int .i64 et) := Ha_1.out.cell 1
            have r_a2 : v1.cell? ⟨w.heap.size, 2, none⟩ = some (.int .i64 ec) := Ha_1.out.cell 2
            have r_a3 : v1.cell? ⟨w.heap.size, 3, none⟩ = some (.int .i64 es) := Ha_1.out.cell 3
            have r_a4 : v1.cell? ⟨w.heap.size, 4, none⟩ = some (.int .i64 ek) := Ha_1.out.cell 4
            have r_a5 : v1.cell? ⟨w.heap.size, 5, none⟩ = some (.int .i64 ea) := Ha_1.out.cell 5
            have r_a6 : v1.cell? ⟨w.heap.size, 6, none⟩ = some (.int .i64 eb) := Ha_1.out.cell 6
            have r_a7 : v1.cell? ⟨w.heap.size, 7, none⟩ = some (.int .i64 eg) := Ha_1.out.cell 7
            have r_a8 : v1.cell? ⟨w.heap.size, 8, none⟩ = some (.int .i64 eh) := Ha_1.out.cell 8
            have hv : entryB ex et ec es ek ea eb eg eh = false := by unfold entryB; rw [Hq1.out, Hq2.out, Hq3.out, Hq4.out, Hq5.out]; simp
            have HV := Lib.hid hv
            clear hv
            go_wp21
            go_ret
            exact ⟨ret_bool HV.out.symm, f1⟩
          | true =>
            rw [q5] at cc
            have Hq5 := Lib.hid q5
            clear q5
            go_wp2_with fail
            refine (cc).mono ?_
            rintro e v1 ⟨rfl, b1⟩
            have f1 := bthen f0 b1
            have z1 := b1.size
            have Ha_1 := Lib.hid (Ha_0.out.below b1)
            clear lt_a r_a0 r_a1 r_a2 r_a3 r_a4 r_a5 r_a6 r_a7 r_a8
            clear Ha_0
            have lt_a := Ha_1.out.lt
            have r_a0 : v1.cell? ⟨w.heap.size, 0, none⟩ = some (.int .i64 ex) := Ha_1.out.cell 0
            have r_a1 : v1.cell? ⟨w.heap.size, 1, none⟩ = some (.int .i64 et) := Ha_1.out.cell 1
            have r_a2 : v1.cell? ⟨w.heap.size, 2, none⟩ = some (.int .i64 ec) := Ha_1.out.cell 2
            have r_a3 : v1.cell? ⟨w.heap.size, 3, none⟩ = some (.int .i64 es) := Ha_1.out.cell 3
            have r_a4 : v1.cell? ⟨w.heap.size, 4, none⟩ = some (.int .i64 ek) := Ha_1.out.cell 4
            have r_a5 : v1.cell? ⟨w.heap.size, 5, none⟩ = some (.int .i64 ea) := Ha_1.out.cell 5
            have r_a6 : v1.cell? ⟨w.heap.size, 6, none⟩ = some (.int .i64 eb) := Ha_1.out.cell 6
            have r_a7 : v1.cell? ⟨w.heap.size, 7, none⟩ = some (.int .i64 eg) := Ha_1.out.cell 7
            have r_a8 : v1.cell? ⟨w.heap.size, 8, none⟩ = some (.int .i64 eh) := Ha_1.out.cell 8
            clear cc
            have hv : entryB ex et ec es ek ea eb eg eh = true := by unfold entryB; rw [Hq1.out, Hq2.out, Hq3.out, Hq4.out, Hq5.out]; rfl
            have HV := Lib.hid hv
            clear hv
            go_wp21
            go_ret
            exact ⟨ret_bool HV.out.symm, f1⟩
set_option maxRecDepth 100000 in
set_option maxHeartbeats 2000000 in
theorem nextIn_any (A : Option Addr) (n c : Nat) (B : Option Addr) (m d : Nat) (i0 t0 l0 l1 l2 : Int) (ex et ec es ek ea eb eg eh : Int) (w : World) (hi0 : 0 ≤ i0) (hi1 : i0 ≤ 2000) :
    Calls Try.prog 59 #[.agg #[.int .i64 i0, .int .i64 t0, .slice A n c, .slice B m d, .int .i64 l0, .int .i64 l1, .int .i64 l2], .agg #[.int .i64 ex, .int .i64 et, .int .i64 ec, .int .i64 es, .int .i64 ek, .int .i64 ea, .int .i64 eb, .int .i64 eg, .int .i64 eh]] w fun e' w' => e' = .returned (.bool (nextB i0 t0 ex et ec es ek ea eb eg eh)) ∧ Below w.heap.size w w' := by
  go_enter Try.func59, Try.ntmps59
  go_wp2_with fail
  refine calls_named ?_
  rintro v0 hv0
  have f0 : Below w.heap.size w v0 := by rw [hv0]; (repeat' (first | (with_reducible exact Below.refl _ _) | (with_reducible assumption) | (with_reducible refine Below.alloc ?_ ?_ _) | (with_reducible refine Below.drew ?_) | (with_reducible refine Below.setCell ?_ ?_ _) | (with_reducible refine bstep (by assumption) ?_ ?_) | (with_reducible exact Nat.le_refl _) | omega | (simp [*]; done) | (simp [*]; omega)))
  have z0 : w.heap.size + 2 ≤ v0.heap.size := by rw [hv0]; simp [size_set]
  have Ha_0 : Hid (Blk v0 w.heap.size 34 #[.int .i64 i0, .int .i64 t0, .slice A n c, .slice B m d, .int .i64 l0, .int .i64 l1, .int .i64 l2]) := by rw [hv0]; exact (Blk.new_at _ _ _ _ (by simp)).alloc _
  have Hb_0 : Hid (Blk v0 (w.heap.size + 1) 46 #[.int .i64 ex, .int .i64 et, .int .i64 ec, .int .i64 es, .int .i64 ek, .int .i64 ea, .int .i64 eb, .int .i64 eg, .int .i64 eh]) := by rw [hv0]; exact Blk.new_at _ _ _ _ (by simp)
  clear hv0
  generalize hg1 : w.heap.size + 1 = g1 at *
  have lg1 : w.heap.size < g1 := by omega
  have lgz : g1 < v0.heap.size := by omega
  have nq1x0 : ¬ g1 = w.heap.size := by omega
  have nq0x1 : ¬ w.heap.size = g1 := by omega
  clear hg1
  have lt_a := Ha_0.out.lt
  have r_a0 : v0.cell? ⟨w.heap.size, 0, none⟩ = some (.int .i64 i0) := Ha_0.out.cell 0
  have r_a1 : v0.cell? ⟨w.heap.size, 1, none⟩ = some (.int .i64 t0) := Ha_0.out.cell 1
  have r_a2 : v0.cell? ⟨w.heap.size, 2, none⟩ = some (.slice A n c) := Ha_0.out.cell 2
  have r_a3 : v0.cell? ⟨w.heap.size, 3, none⟩ = some (.slice B m d) := Ha_0.out.cell 3
  have r_a4 : v0.cell? ⟨w.heap.size, 4, none⟩ = some (.int .i64 l0) := Ha_0.out.cell 4
  have r_a5 : v0.cell? ⟨w.heap.size, 5, none⟩ = some (.int .i64 l1) := Ha_0.out.cell 5
  have r_a6 : v0.cell? ⟨w.heap.size, 6, none⟩ = some (.int .i64 l2) := Ha_0.out.cell 6
  have lt_b := Hb_0.out.lt
  have r_b0 : v0.cell? ⟨g1, 0, none⟩ = some (.int .i64 ex) := Hb_0.out.cell 0
  have r_b1 : v0.cell? ⟨g1, 1, none⟩ = some (.int .i64 et) := Hb_0.out.cell 1
  have r_b2 : v0.cell? ⟨g1, 2, none⟩ = some (.int .i64 ec) := Hb_0.out.cell 2
  have r_b3 : v0.cell? ⟨g1, 3, none⟩ = some (.int .i64 es) := Hb_0.out.cell 3
  have r_b4 : v0.cell? ⟨g1, 4, none⟩ = some (.int .i64 ek) := Hb_0.out.cell 4
  have r_b5 : v0.cell? ⟨g1, 5, none⟩ = some (.int .i64 ea) := Hb_0.out.cell 5
  have r_b6 : v0.cell? ⟨g1, 6, none⟩ = some (.int .i64 eb) := Hb_0.out.cell 6
  have r_b7 : v0.cell? ⟨g1, 7, none⟩ = some (.int .i64 eg) := Hb_0.out.cell 7
  have r_b8 : v0.cell? ⟨g1, 8, none⟩ = some (.int .i64 eh) := Hb_0.out.cell 8
  have cc := entryOk_any ex et ec es ek ea eb eg eh v0
  cases r1 : (entryB ex et ec es ek ea eb eg eh) with
  | false =>
    rw [r1] at cc
    have Hr1 := Lib.hid r1
    clear r1
    refine (cc).mono ?_
    rintro e v1 ⟨rfl, b1⟩
    have f1 := bthen f0 b1
    have z1 := b1.size
    have Ha_1 := Lib.hid (Ha_0.out.below b1)
    have Hb_1 := Lib.hid (Hb_0.out.below b1)
    clear lt_a r_a0 r_a1 r_a2 r_a3 r_a4 r_a5 r_a6 lt_b r_b0 r_b1 r_b2 r_b3 r_b4 r_b5 r_b6 r_b7 r_b8
    clear Ha_0 Hb_0
    have lt_a := Ha_1.out.lt
    have r_a0 : v1.cell? ⟨w.heap.size, 0, none⟩ = some (.int .i64 i0) := Ha_1.out.cell 0
    have r_a1 : v1.cell? ⟨w.heap.size, 1, none⟩ = some (.int .i64 t0) := Ha_1.out.cell 1
    have r_a2 : v1.cell? ⟨w.heap.size, 2, none⟩ = some (.slice A n c) := Ha_1.out.cell 2
    have r_a3 : v1.cell? ⟨w.heap.size, 3, none⟩ = some (.slice B m d) := Ha_1.out.cell 3
    have r_a4 : v1.cell? ⟨w.heap.size, 4, none⟩ = some (.int .i64 l0) := Ha_1.out.cell 4
    have r_a5 : v1.cell? ⟨w.heap.size, 5, none⟩ = some (.int .i64 l1) := Ha_1.out.cell 5
    have r_a6 : v1.cell? ⟨w.heap.size, 6, none⟩ = some (.int .i64 l2) := Ha_1.out.cell 6
    have lt_b := Hb_1.out.lt
    have r_b0 : v1.cell? ⟨g1, 0, none⟩ = some (.int .i64 ex) := Hb_1.out.cell 0
    have r_b1 : v1.cell? ⟨g1, 1, none⟩ = some (.int .i64 et) := Hb_1.out.cell 1
    have r_b2 : v1.cell? ⟨g1, 2, none⟩ = some (.int .i64 ec) := Hb_1.out.cell 2
    have r_b3 : v1.cell? ⟨g1, 3, none⟩ = some (.int .i64 es) := Hb_1.out.cell 3
    have r_b4 : v1.cell? ⟨g1, 4, none⟩ = some (.int .i64 ek) := Hb_1.out.cell 4
    have r_b5 : v1.cell? ⟨g1, 5, none⟩ = some (.int .i64 ea) := Hb_1.out.cell 5
    have r_b6 : v1.cell? ⟨g1, 6, none⟩ = some (.int .i64 eb) := Hb_1.out.cell 6
    have r_b7 : v1.cell? ⟨g1, 7, none⟩ = some (.int .i64 eg) := Hb_1.out.cell 7
    have r_b8 : v1.cell? ⟨g1, 8, none⟩ = some (.int .i64 eh) := Hb_1.out.cell 8
    have hv : nextB i0 t0 ex et ec es ek ea eb eg eh = false := by unfold nextB; rw [Hr1.out]; simp
    have HV := Lib.hid hv
    clear hv
    go_wp21
    go_ret
    exact ⟨ret_bool HV.out.symm, f1⟩
  | true =>
    rw [r1] at cc
    have Hr1 := Lib.hid r1
    clear r1
    refine (cc).mono ?_
    rintro e v1 ⟨rfl, b1⟩
    have f1 := bthen f0 b1
    have z1 := b1.size
    have Ha_1 := Lib.hid (Ha_0.out.below b1)
    have Hb_1 := Lib.hid (Hb_0.out.below b1)
    clear lt_a r_a0 r_a1 r_a2 r_a3 r_a4 r_a5 r_a6 lt_b r_b0 r_b1 r_b2 r_b3 r_b4 r_b5 r_b6 r_b7 r_b8
    clear Ha_0 Hb_0
    have lt_a := Ha_1.out.lt
    have r_a0 : v1.cell? ⟨w.heap.size, 0, none⟩ = some (.int .i64 i0) := Ha_1.out.cell 0
    have r_a1 : v1.cell? ⟨w.heap.size, 1, none⟩ = some (.int .i64 t0) := Ha_1.out.cell 1
    have r_a2 : v1.cell? ⟨w.heap.size, 2, none⟩ = some (.slice A n c) := Ha_1.out.cell 2
    have r_a3 : v1.cell? ⟨w.heap.size, 3, none⟩ = some (.slice B m d) := Ha_1.out.cell 3
    have r_a4 : v1.cell? ⟨w.heap.size, 4, none⟩ = some (.int .i64 l0) := Ha_1.out.cell 4
    have r_a5 : v1.cell? ⟨w.heap.size, 5, none⟩ = some (.int .i64 l1) := Ha_1.out.cell 5
    have r_a6 : v1.cell? ⟨w.heap.size, 6, none⟩ = some (.int .i64 l2) := Ha_1.out.cell 6
    have lt_b := Hb_1.out.lt
    have r_b0 : v1.cell? ⟨g1, 0, none⟩ = some (.int .i64 ex) := Hb_1.out.cell 0
    have r_b1 : v1.cell? ⟨g1, 1, none⟩ = some (.int .i64 et) := Hb_1.out.cell 1
    have r_b2 : v1.cell? ⟨g1, 2, none⟩ = some (.int .i64 ec) := Hb_1.out.cell 2
    have r_b3 : v1.cell? ⟨g1, 3, none⟩ = some (.int .i64 es) := Hb_1.out.cell 3
    have r_b4 : v1.cell? ⟨g1, 4, none⟩ = some (.int .i64 ek) := Hb_1.out.cell 4
    have r_b5 : v1.cell? ⟨g1, 5, none⟩ = some (.int .i64 ea) := Hb_1.out.cell 5
    have r_b6 : v1.cell? ⟨g1, 6, none⟩ = some (.int .i64 eb) := Hb_1.out.cell 6
    have r_b7 : v1.cell? ⟨g1, 7, none⟩ = some (.int .i64 eg) := Hb_1.out.cell 7
    have r_b8 : v1.cell? ⟨g1, 8, none⟩ = some (.int .i64 eh) := Hb_1.out.cell 8
    clear cc
    cases r2 : (ex == i0 + 1) with
    | false =>
      have Hr2 := Lib.hid r2
      have hv : nextB i0 t0 ex et ec es ek ea eb eg eh = false := by unfold nextB; rw [Hr1.out, Hr2.out]; simp
      have HV := Lib.hid hv
      clear hv
      go_wp21
      go_ret
      exact ⟨ret_bool HV.out.symm, f1⟩
    | true =>
      have Hr2 : Hid ((ex == i0 + 1) = true) := r2
      cases r3 : (decide (t0 ≤ et)) with
      | false =>
        have Hr3 := Lib.hid r3
        have hle : et < t0 := by have := of_decide_eq_false r3; omega
        have hv : nextB i0 t0 ex et ec es ek ea eb eg eh = false := by unfold nextB; rw [Hr1.out, Hr2.out, Hr3.out]; simp
        have HV := Lib.hid hv
        clear hv
        go_wp21
        go_ret
        exact ⟨ret_bool HV.out.symm, f1⟩
      | true =>
        have Hr3 : Hid ((decide (t0 ≤ et)) = true) := r3
        have hle : t0 ≤ et := of_decide_eq_true r3
        have hv : nextB i0 t0 ex et ec es ek ea eb eg eh = true := by unfold nextB; rw [Hr1.out, Hr2.out, Hr3.out]; rfl
        have HV := Lib.hid hv
        clear hv
        go_wp21
        go_ret
        exact ⟨ret_bool HV.out.symm, f1⟩
set_option maxRecDepth 100000 in
set_option maxHeartbeats 2000000 in
theorem NextIn_any (A : Option Addr) (n c : Nat) (B : Option Addr) (m d : Nat) (i0 t0 l0 l1 l2 : Int) (pl : List Pr) (ql : List Jb) (ex et ec es ek ea eb eg eh : Int) (w : World) (hP : Sl w 2 A n (PR pl)) (hQ : Sl w 5 B m (JB ql)) (hl : pl.length = n) (hr : ql.length = m) (hn : n ≤ maxLen) (hm : m ≤ maxLen) :
    Calls Try.prog 19 #[.agg #[.int .i64 i0, .int .i64 t0, .slice A n c, .slice B m d, .int .i64 l0, .int .i64 l1, .int .i64 l2], .agg #[.int .i64 ex, .int .i64 et, .int .i64 ec, .int .i64 es, .int .i64 ek, .int .i64 ea, .int .i64 eb, .int .i64 eg, .int .i64 eh]] w fun e' w' => e' = .returned (.bool (nextInB i0 t0 l0 l1 l2 pl ql ex et ec es ek ea eb eg eh)) ∧ Below w.heap.size w w' := by
  have hL := Lib.hid hl
  have hR := Lib.hid hr
  have HP := Lib.hid hP
  have HQ := Lib.hid hQ
  clear hP hQ hl hr
  go_enter Try.func19, Try.ntmps19
  go_wp2_with fail
  refine calls_named ?_
  rintro v0 hv0
  have f0 : Below w.heap.size w v0 := by rw [hv0]; (repeat' (first | (with_reducible exact Below.refl _ _) | (with_reducible assumption) | (with_reducible refine Below.alloc ?_ ?_ _) | (with_reducible refine Below.drew ?_) | (with_reducible refine Below.setCell ?_ ?_ _) | (with_reducible refine bstep (by assumption) ?_ ?_) | (with_reducible exact Nat.le_refl _) | omega | (simp [*]; done) | (simp [*]; omega)))
  have z0 : w.heap.size + 2 ≤ v0.heap.size := by rw [hv0]; simp [size_set]
  have HP_0 := Lib.hid (HP.out.below f0)
  have HP_lt := Lib.hid (fun hn => HP.out.lt hn)
  have HQ_0 := Lib.hid (HQ.out.below f0)
  have HQ_lt := Lib.hid (fun hn => HQ.out.lt hn)
  have Ha_0 : Hid (Blk v0 w.heap.size 34 #[.int .i64 i0, .int .i64 t0, .slice A n c, .slice B m d, .int .i64 l0, .int .i64 l1, .int .i64 l2]) := by rw [hv0]; exact (Blk.new_at _ _ _ _ (by simp)).alloc _
  have Hb_0 : Hid (Blk v0 (w.heap.size + 1) 46 #[.int .i64 ex, .int .i64 et, .int .i64 ec, .int .i64 es, .int .i64 ek, .int .i64 ea, .int .i64 eb, .int .i64 eg, .int .i64 eh]) := by rw [hv0]; exact Blk.new_at _ _ _ _ (by simp)
  clear hv0
  generalize hg1 : w.heap.size + 1 = g1 at *
  have lg1 : w.heap.size < g1 := by omega
  have lgz : g1 < v0.heap.size := by omega
  have nq1x0 : ¬ g1 = w.heap.size := by omega
  have nq0x1 : ¬ w.heap.size = g1 := by omega
  clear hg1
  have lt_a := Ha_0.out.lt
  have r_a0 : v0.cell? ⟨w.heap.size, 0, none⟩ = some (.int .i64 i0) := Ha_0.out.cell 0
  have r_a1 : v0.cell? ⟨w.heap.size, 1, none⟩ = some (.int .i64 t0) := Ha_0.out.cell 1
  have r_a2 : v0.cell? ⟨w.heap.size, 2, none⟩ = some (.slice A n c) := Ha_0.out.cell 2
  have r_a3 : v0.cell? ⟨w.heap.size, 3, none⟩ = some (.slice B m d) := Ha_0.out.cell 3
  have r_a4 : v0.cell? ⟨w.heap.size, 4, none⟩ = some (.int .i64 l0) := Ha_0.out.cell 4
  have r_a5 : v0.cell? ⟨w.heap.size, 5, none⟩ = some (.int .i64 l1) := Ha_0.out.cell 5
  have r_a6 : v0.cell? ⟨w.heap.size, 6, none⟩ = some (.int .i64 l2) := Ha_0.out.cell 6
  have lt_b := Hb_0.out.lt
  have r_b0 : v0.cell? ⟨g1, 0, none⟩ = some (.int .i64 ex) := Hb_0.out.cell 0
  have r_b1 : v0.cell? ⟨g1, 1, none⟩ = some (.int .i64 et) := Hb_0.out.cell 1
  have r_b2 : v0.cell? ⟨g1, 2, none⟩ = some (.int .i64 ec) := Hb_0.out.cell 2
  have r_b3 : v0.cell? ⟨g1, 3, none⟩ = some (.int .i64 es) := Hb_0.out.cell 3
  have r_b4 : v0.cell? ⟨g1, 4, none⟩ = some (.int .i64 ek) := Hb_0.out.cell 4
  have r_b5 : v0.cell? ⟨g1, 5, none⟩ = some (.int .i64 ea) := Hb_0.out.cell 5
  have r_b6 : v0.cell? ⟨g1, 6, none⟩ = some (.int .i64 eb) := Hb_0.out.cell 6
  have r_b7 : v0.cell? ⟨g1, 7, none⟩ = some (.int .i64 eg) := Hb_0.out.cell 7
  have r_b8 : v0.cell? ⟨g1, 8, none⟩ = some (.int .i64 eh) := Hb_0.out.cell 8
  have cc := stateOk_any A n c B m d i0 t0 l0 l1 l2 pl ql v0 HP_0.out HQ_0.out hL.out hR.out hn hm
  cases r0 : (stateB i0 t0 l0 l1 l2 pl ql) with
  | false =>
    rw [r0] at cc
    have Hr0 := Lib.hid r0
    clear r0
    refine (cc).mono ?_
    rintro e v1 ⟨rfl, b1⟩
    have f1 := bthen f0 b1
    have z1 := b1.size
    have HP_1 := Lib.hid (HP_0.out.below b1)
    have HQ_1 := Lib.hid (HQ_0.out.below b1)
    have Ha_1 := Lib.hid (Ha_0.out.below b1)
    have Hb_1 := Lib.hid (Hb_0.out.below b1)
    clear lt_a r_a0 r_a1 r_a2 r_a3 r_a4 r_a5 r_a6 lt_b r_b0 r_b1 r_b2 r_b3 r_b4 r_b5 r_b6 r_b7 r_b8
    clear HP_0 HQ_0 Ha_0 Hb_0
    have lt_a := Ha_1.out.lt
    have r_a0 : v1.cell? ⟨w.heap.size, 0, none⟩ = some (.int .i64 i0) := Ha_1.out.cell 0
    have r_a1 : v1.cell? ⟨w.heap.size, 1, none⟩ = some (.int .i64 t0) := Ha_1.out.cell 1
    have r_a2 : v1.cell? ⟨w.heap.size, 2, none⟩ = some (.slice A n c) := Ha_1.out.cell 2
    have r_a3 : v1.cell? ⟨w.heap.size, 3, none⟩ = some (.slice B m d) := Ha_1.out.cell 3
    have r_a4 : v1.cell? ⟨w.heap.size, 4, none⟩ = some (.int .i64 l0) := Ha_1.out.cell 4
    have r_a5 : v1.cell? ⟨w.heap.size, 5, none⟩ = some (.int .i64 l1) := Ha_1.out.cell 5
    have r_a6 : v1.cell? ⟨w.heap.size, 6, none⟩ = some (.int .i64 l2) := Ha_1.out.cell 6
    have lt_b := Hb_1.out.lt
    have r_b0 : v1.cell? ⟨g1, 0, none⟩ = some (.int .i64 ex) := Hb_1.out.cell 0
    have r_b1 : v1.cell? ⟨g1, 1, none⟩ = some (.int .i64 et) := Hb_1.out.cell 1
    have r_b2 : v1.cell? ⟨g1, 2, none⟩ = some (.int .i64 ec) := Hb_1.out.cell 2
    have r_b3 : v1.cell? ⟨g1, 3, none⟩ = some (.int .i64 es) := Hb_1.out.cell 3
    have r_b4 : v1.cell? ⟨g1, 4, none⟩ = some (.int .i64 ek) := Hb_1.out.cell 4
    have r_b5 : v1.cell? ⟨g1, 5, none⟩ = some (.int .i64 ea) := Hb_1.out.cell 5
    have r_b6 : v1.cell? ⟨g1, 6, none⟩ = some (.int .i64 eb) := Hb_1.out.cell 6
    have r_b7 : v1.cell? ⟨g1, 7, none⟩ = some (.int .i64 eg) := Hb_1.out.cell 7
    have r_b8 : v1.cell? ⟨g1, 8, none⟩ = some (.int .i64 eh) := Hb_1.out.cell 8
    have hv : nextInB i0 t0 l0 l1 l2 pl ql ex et ec es ek ea eb eg eh = false := by unfold nextInB; rw [Hr0.out]; simp
    have HV := Lib.hid hv
    clear hv
    go_wp21
    go_ret
    exact ⟨ret_bool HV.out.symm, f1⟩
  | true =>
    rw [r0] at cc
    have Hr0 := Lib.hid r0
    clear r0
    refine (cc).mono ?_
    rintro e v1 ⟨rfl, b1⟩
    have f1 := bthen f0 b1
    have z1 := b1.size
    have HP_1 := Lib.hid (HP_0.out.below b1)
    have HQ_1 := Lib.hid (HQ_0.out.below b1)
    have Ha_1 := Lib.hid (Ha_0.out.below b1)
    have Hb_1 := Lib.hid (Hb_0.out.below b1)
    clear lt_a r_a0 r_a1 r_a2 r_a3 r_a4 r_a5 r_a6 lt_b r_b0 r_b1 r_b2 r_b3 r_b4 r_b5 r_b6 r_b7 r_b8
    clear HP_0 HQ_0 Ha_0 Hb_0
    have lt_a := Ha_1.out.lt
    have r_a0 : v1.cell? ⟨w.heap.size, 0, none⟩ = some (.int .i64 i0) := Ha_1.out.cell 0
    have r_a1 : v1.cell? ⟨w.heap.size, 1, none⟩ = some (.int .i64 t0) := Ha_1.out.cell 1
    have r_a2 : v1.cell? ⟨w.heap.size, 2, none⟩ = some (.slice A n c) := Ha_1.out.cell 2
    have r_a3 : v1.cell? ⟨w.heap.size, 3, none⟩ = some (.slice B m d) := Ha_1.out.cell 3
    have r_a4 : v1.cell? ⟨w.heap.size, 4, none⟩ = some (.int .i64 l0) := Ha_1.out.cell 4
    have r_a5 : v1.cell? ⟨w.heap.size, 5, none⟩ = some (.int .i64 l1) := Ha_1.out.cell 5
    have r_a6 : v1.cell? ⟨w.heap.size, 6, none⟩ = some (.int .i64 l2) := Ha_1.out.cell 6
    have lt_b := Hb_1.out.lt
    have r_b0 : v1.cell? ⟨g1, 0, none⟩ = some (.int .i64 ex) := Hb_1.out.cell 0
    have r_b1 : v1.cell? ⟨g1, 1, none⟩ = some (.int .i64 et) := Hb_1.out.cell 1
    have r_b2 : v1.cell? ⟨g1, 2, none⟩ = some (.int .i64 ec) := Hb_1.out.cell 2
    have r_b3 : v1.cell? ⟨g1, 3, none⟩ = some (.int .i64 es) := Hb_1.out.cell 3
    have r_b4 : v1.cell? ⟨g1, 4, none⟩ = some (.int .i64 ek) := Hb_1.out.cell 4
    have r_b5 : v1.cell? ⟨g1, 5, none⟩ = some (.int .i64 ea) := Hb_1.out.cell 5
    have r_b6 : v1.cell? ⟨g1, 6, none⟩ = some (.int .i64 eb) := Hb_1.out.cell 6
    have r_b7 : v1.cell? ⟨g1, 7, none⟩ = some (.int .i64 eg) := Hb_1.out.cell 7
    have r_b8 : v1.cell? ⟨g1, 8, none⟩ = some (.int .i64 eh) := Hb_1.out.cell 8
    clear cc
    obtain ⟨hi0, hi1⟩ := stateB_i Hr0.out
    have c9 := nextIn_any A n c B m d i0 t0 l0 l1 l2 ex et ec es ek ea eb eg eh v1 hi0 hi1
    have hv : nextInB i0 t0 l0 l1 l2 pl ql ex et ec es ek ea eb eg eh = nextB i0 t0 ex et ec es ek ea eb eg eh := by unfold nextInB; rw [Hr0.out]; rfl
    have HV := Lib.hid hv
    clear hv
    generalize nextB i0 t0 ex et ec es ek ea eb eg eh = q at c9 HV
    go_wp2_with fail
    refine (c9).mono ?_
    rintro e v2 ⟨rfl, b2⟩
    have f2 := bthen f1 b2
    have z2 := b2.size
    have HP_2 := Lib.hid (HP_1.out.below b2)
    have HQ_2 := Lib.hid (HQ_1.out.below b2)
    have Ha_2 := Lib.hid (Ha_1.out.below b2)
    have Hb_2 := Lib.hid (Hb_1.out.below b2)
    clear lt_a r_a0 r_a1 r_a2 r_a3 r_a4 r_a5 r_a6 lt_b r_b0 r_b1 r_b2 r_b3 r_b4 r_b5 r_b6 r_b7 r_b8
    clear HP_1 HQ_1 Ha_1 Hb_1
    have lt_a := Ha_2.out.lt
    have r_a0 : v2.cell? ⟨w.heap.size, 0, none⟩ = some (.int .i64 i0) := Ha_2.out.cell 0
    have r_a1 : v2.cell? ⟨w.heap.size, 1, none⟩ = some (.int .i64 t0) := Ha_2.out.cell 1
    have r_a2 : v2.cell? ⟨w.heap.size, 2, none⟩ = some (.slice A n c) := Ha_2.out.cell 2
    have r_a3 : v2.cell? ⟨w.heap.size, 3, none⟩ = some (.slice B m d) := Ha_2.out.cell 3
    have r_a4 : v2.cell? ⟨w.heap.size, 4, none⟩ = some (.int .i64 l0) := Ha_2.out.cell 4
    have r_a5 : v2.cell? ⟨w.heap.size, 5, none⟩ = some (.int .i64 l1) := Ha_2.out.cell 5
    have r_a6 : v2.cell? ⟨w.heap.size, 6, none⟩ = some (.int .i64 l2) := Ha_2.out.cell 6
    have lt_b := Hb_2.out.lt
    have r_b0 : v2.cell? ⟨g1, 0, none⟩ = some (.int .i64 ex) := Hb_2.out.cell 0
    have r_b1 : v2.cell? ⟨g1, 1, none⟩ = some (.int .i64 et) := Hb_2.out.cell 1
    have r_b2 : v2.cell? ⟨g1, 2, none⟩ = some (.int .i64 ec) := Hb_2.out.cell 2
    have r_b3 : v2.cell? ⟨g1, 3, none⟩ = some (.int .i64 es) := Hb_2.out.cell 3
    have r_b4 : v2.cell? ⟨g1, 4, none⟩ = some (.int .i64 ek) := Hb_2.out.cell 4
    have r_b5 : v2.cell? ⟨g1, 5, none⟩ = some (.int .i64 ea) := Hb_2.out.cell 5
    have r_b6 : v2.cell? ⟨g1, 6, none⟩ = some (.int .i64 eb) := Hb_2.out.cell 6
    have r_b7 : v2.cell? ⟨g1, 7, none⟩ = some (.int .i64 eg) := Hb_2.out.cell 7
    have r_b8 : v2.cell? ⟨g1, 8, none⟩ = some (.int .i64 eh) := Hb_2.out.cell 8
    go_wp21
    go_ret
    exact ⟨ret_bool HV.out.symm, f2⟩
set_option maxRecDepth 100000 in
set_option maxHeartbeats 2000000 in
theorem specNextIn_any (A : Option Addr) (n c : Nat) (B : Option Addr) (m d : Nat) (i0 t0 l0 l1 l2 : Int) (pl : List Pr) (ql : List Jb) (ex et ec es ek ea eb eg eh : Int) (w : World) (hP : Sl w 2 A n (PR pl)) (hQ : Sl w 5 B m (JB ql)) (hl : pl.length = n) (hr : ql.length = m) (hn : n ≤ maxLen) (hm : m ≤ maxLen) :
    Calls Try.prog 17 #[.agg #[.int .i64 i0, .int .i64 t0, .slice A n c, .slice B m d, .int .i64 l0, .int .i64 l1, .int .i64 l2], .agg #[.int .i64 ex, .int .i64 et, .int .i64 ec, .int .i64 es, .int .i64 ek, .int .i64 ea, .int .i64 eb, .int .i64 eg, .int .i64 eh]] w fun e' w' => e' = .returned (.bool (nextInB i0 t0 l0 l1 l2 pl ql ex et ec es ek ea eb eg eh)) ∧ Below w.heap.size w w' := by
  have hL := Lib.hid hl
  have hR := Lib.hid hr
  have HP := Lib.hid hP
  have HQ := Lib.hid hQ
  clear hP hQ hl hr
  go_enter Try.func17, Try.ntmps17
  go_wp2_with fail
  refine calls_named ?_
  rintro v0 hv0
  have f0 : Below w.heap.size w v0 := by rw [hv0]; (repeat' (first | (with_reducible exact Below.refl _ _) | (with_reducible assumption) | (with_reducible refine Below.alloc ?_ ?_ _) | (with_reducible refine Below.drew ?_) | (with_reducible refine Below.setCell ?_ ?_ _) | (with_reducible refine bstep (by assumption) ?_ ?_) | (with_reducible exact Nat.le_refl _) | omega | (simp [*]; done) | (simp [*]; omega)))
  have z0 : w.heap.size + 2 ≤ v0.heap.size := by rw [hv0]; simp [size_set]
  have HP_0 := Lib.hid (HP.out.below f0)
  have HP_lt := Lib.hid (fun hn => HP.out.lt hn)
  have HQ_0 := Lib.hid (HQ.out.below f0)
  have HQ_lt := Lib.hid (fun hn => HQ.out.lt hn)
  have Ha_0 : Hid (Blk v0 w.heap.size 34 #[.int .i64 i0, .int .i64 t0, .slice A n c, .slice B m d, .int .i64 l0, .int .i64 l1, .int .i64 l2]) := by rw [hv0]; exact (Blk.new_at _ _ _ _ (by simp)).alloc _
  have Hb_0 : Hid (Blk v0 (w.heap.size + 1) 46 #[.int .i64 ex, .int .i64 et, .int .i64 ec, .int .i64 es, .int .i64 ek, .int .i64 ea, .int .i64 eb, .int .i64 eg, .int .i64 eh]) := by rw [hv0]; exact Blk.new_at _ _ _ _ (by simp)
  clear hv0
  generalize hg1 : w.heap.size + 1 = g1 at *
  have lg1 : w.heap.size < g1 := by omega
  have lgz : g1 < v0.heap.size := by omega
  have nq1x0 : ¬ g1 = w.heap.size := by omega
  have nq0x1 : ¬ w.heap.size = g1 := by omega
  clear hg1
  have lt_a := Ha_0.out.lt
  have r_a0 : v0.cell? ⟨w.heap.size, 0, none⟩ = some (.int .i64 i0) := Ha_0.out.cell 0
  have r_a1 : v0.cell? ⟨w.heap.size, 1, none⟩ = some (.int .i64 t0) := Ha_0.out.cell 1
  have r_a2 : v0.cell? ⟨w.heap.size, 2, none⟩ = some (.slice A n c) := Ha_0.out.cell 2
  have r_a3 : v0.cell? ⟨w.heap.size, 3, none⟩ = some (.slice B m d) := Ha_0.out.cell 3
  have r_a4 : v0.cell? ⟨w.heap.size, 4, none⟩ = some (.int .i64 l0) := Ha_0.out.cell 4
  have r_a5 : v0.cell? ⟨w.heap.size, 5, none⟩ = some (.int .i64 l1) := Ha_0.out.cell 5
  have r_a6 : v0.cell? ⟨w.heap.size, 6, none⟩ = some (.int .i64 l2) := Ha_0.out.cell 6
  have lt_b := Hb_0.out.lt
  have r_b0 : v0.cell? ⟨g1, 0, none⟩ = some (.int .i64 ex) := Hb_0.out.cell 0
  have r_b1 : v0.cell? ⟨g1, 1, none⟩ = some (.int .i64 et) := Hb_0.out.cell 1
  have r_b2 : v0.cell? ⟨g1, 2, none⟩ = some (.int .i64 ec) := Hb_0.out.cell 2
  have r_b3 : v0.cell? ⟨g1, 3, none⟩ = some (.int .i64 es) := Hb_0.out.cell 3
  have r_b4 : v0.cell? ⟨g1, 4, none⟩ = some (.int .i64 ek) := Hb_0.out.cell 4
  have r_b5 : v0.cell? ⟨g1, 5, none⟩ = some (.int .i64 ea) := Hb_0.out.cell 5
  have r_b6 : v0.cell? ⟨g1, 6, none⟩ = some (.int .i64 eb) := Hb_0.out.cell 6
  have r_b7 : v0.cell? ⟨g1, 7, none⟩ = some (.int .i64 eg) := Hb_0.out.cell 7
  have r_b8 : v0.cell? ⟨g1, 8, none⟩ = some (.int .i64 eh) := Hb_0.out.cell 8
  have cc := specStateOk_any A n c B m d i0 t0 l0 l1 l2 pl ql v0 HP_0.out HQ_0.out hL.out hR.out hn hm
  cases r0 : (stateB i0 t0 l0 l1 l2 pl ql) with
  | false =>
    rw [r0] at cc
    have Hr0 := Lib.hid r0
    clear r0
    refine (cc).mono ?_
    rintro e v1 ⟨rfl, b1⟩
    have f1 := bthen f0 b1
    have z1 := b1.size
    have HP_1 := Lib.hid (HP_0.out.below b1)
    have HQ_1 := Lib.hid (HQ_0.out.below b1)
    have Ha_1 := Lib.hid (Ha_0.out.below b1)
    have Hb_1 := Lib.hid (Hb_0.out.below b1)
    clear lt_a r_a0 r_a1 r_a2 r_a3 r_a4 r_a5 r_a6 lt_b r_b0 r_b1 r_b2 r_b3 r_b4 r_b5 r_b6 r_b7 r_b8
    clear HP_0 HQ_0 Ha_0 Hb_0
    have lt_a := Ha_1.out.lt
    have r_a0 : v1.cell? ⟨w.heap.size, 0, none⟩ = some (.int .i64 i0) := Ha_1.out.cell 0
    have r_a1 : v1.cell? ⟨w.heap.size, 1, none⟩ = some (.int .i64 t0) := Ha_1.out.cell 1
    have r_a2 : v1.cell? ⟨w.heap.size, 2, none⟩ = some (.slice A n c) := Ha_1.out.cell 2
    have r_a3 : v1.cell? ⟨w.heap.size, 3, none⟩ = some (.slice B m d) := Ha_1.out.cell 3
    have r_a4 : v1.cell? ⟨w.heap.size, 4, none⟩ = some (.int .i64 l0) := Ha_1.out.cell 4
    have r_a5 : v1.cell? ⟨w.heap.size, 5, none⟩ = some (.int .i64 l1) := Ha_1.out.cell 5
    have r_a6 : v1.cell? ⟨w.heap.size, 6, none⟩ = some (.int .i64 l2) := Ha_1.out.cell 6
    have lt_b := Hb_1.out.lt
    have r_b0 : v1.cell? ⟨g1, 0, none⟩ = some (.int .i64 ex) := Hb_1.out.cell 0
    have r_b1 : v1.cell? ⟨g1, 1, none⟩ = some (.int .i64 et) := Hb_1.out.cell 1
    have r_b2 : v1.cell? ⟨g1, 2, none⟩ = some (.int .i64 ec) := Hb_1.out.cell 2
    have r_b3 : v1.cell? ⟨g1, 3, none⟩ = some (.int .i64 es) := Hb_1.out.cell 3
    have r_b4 : v1.cell? ⟨g1, 4, none⟩ = some (.int .i64 ek) := Hb_1.out.cell 4
    have r_b5 : v1.cell? ⟨g1, 5, none⟩ = some (.int .i64 ea) := Hb_1.out.cell 5
    have r_b6 : v1.cell? ⟨g1, 6, none⟩ = some (.int .i64 eb) := Hb_1.out.cell 6
    have r_b7 : v1.cell? ⟨g1, 7, none⟩ = some (.int .i64 eg) := Hb_1.out.cell 7
    have r_b8 : v1.cell? ⟨g1, 8, none⟩ = some (.int .i64 eh) := Hb_1.out.cell 8
    have hv : nextInB i0 t0 l0 l1 l2 pl ql ex et ec es ek ea eb eg eh = false := by unfold nextInB; rw [Hr0.out]; simp
    have HV := Lib.hid hv
    clear hv
    go_wp21
    go_ret
    exact ⟨ret_bool HV.out.symm, f1⟩
  | true =>
    rw [r0] at cc
    have Hr0 := Lib.hid r0
    clear r0
    refine (cc).mono ?_
    rintro e v1 ⟨rfl, b1⟩
    have f1 := bthen f0 b1
    have z1 := b1.size
    have HP_1 := Lib.hid (HP_0.out.below b1)
    have HQ_1 := Lib.hid (HQ_0.out.below b1)
    have Ha_1 := Lib.hid (Ha_0.out.below b1)
    have Hb_1 := Lib.hid (Hb_0.out.below b1)
    clear lt_a r_a0 r_a1 r_a2 r_a3 r_a4 r_a5 r_a6 lt_b r_b0 r_b1 r_b2 r_b3 r_b4 r_b5 r_b6 r_b7 r_b8
    clear HP_0 HQ_0 Ha_0 Hb_0
    have lt_a := Ha_1.out.lt
    have r_a0 : v1.cell? ⟨w.heap.size, 0, none⟩ = some (.int .i64 i0) := Ha_1.out.cell 0
    have r_a1 : v1.cell? ⟨w.heap.size, 1, none⟩ = some (.int .i64 t0) := Ha_1.out.cell 1
    have r_a2 : v1.cell? ⟨w.heap.size, 2, none⟩ = some (.slice A n c) := Ha_1.out.cell 2
    have r_a3 : v1.cell? ⟨w.heap.size, 3, none⟩ = some (.slice B m d) := Ha_1.out.cell 3
    have r_a4 : v1.cell? ⟨w.heap.size, 4, none⟩ = some (.int .i64 l0) := Ha_1.out.cell 4
    have r_a5 : v1.cell? ⟨w.heap.size, 5, none⟩ = some (.int .i64 l1) := Ha_1.out.cell 5
    have r_a6 : v1.cell? ⟨w.heap.size, 6, none⟩ = some (.int .i64 l2) := Ha_1.out.cell 6
    have lt_b := Hb_1.out.lt
    have r_b0 : v1.cell? ⟨g1, 0, none⟩ = some (.int .i64 ex) := Hb_1.out.cell 0
    have r_b1 : v1.cell? ⟨g1, 1, none⟩ = some (.int .i64 et) := Hb_1.out.cell 1
    have r_b2 : v1.cell? ⟨g1, 2, none⟩ = some (.int .i64 ec) := Hb_1.out.cell 2
    have r_b3 : v1.cell? ⟨g1, 3, none⟩ = some (.int .i64 es) := Hb_1.out.cell 3
    have r_b4 : v1.cell? ⟨g1, 4, none⟩ = some (.int .i64 ek) := Hb_1.out.cell 4
    have r_b5 : v1.cell? ⟨g1, 5, none⟩ = some (.int .i64 ea) := Hb_1.out.cell 5
    have r_b6 : v1.cell? ⟨g1, 6, none⟩ = some (.int .i64 eb) := Hb_1.out.cell 6
    have r_b7 : v1.cell? ⟨g1, 7, none⟩ = some (.int .i64 eg) := Hb_1.out.cell 7
    have r_b8 : v1.cell? ⟨g1, 8, none⟩ = some (.int .i64 eh) := Hb_1.out.cell 8
    clear cc
    obtain ⟨hi0, hi1⟩ := stateB_i Hr0.out
    have hx : nextInB i0 t0 l0 l1 l2 pl ql ex et ec es ek ea eb eg eh = nextB i0 t0 ex et ec es ek ea eb eg eh := by unfold nextInB; rw [Hr0.out]; rfl
    have HX := Lib.hid hx
    clear hx
    have cc := specEntryOk_any ex et ec es ek ea eb eg eh v1
    cases r1 : (entryB ex et ec es ek ea eb eg eh) with
    | false =>
      rw [r1] at cc
      have Hr1 := Lib.hid r1
      clear r1
      go_wp2_with fail
      refine (cc).mono ?_
      rintro e v2 ⟨rfl, b2⟩
      have f2 := bthen f1 b2
      have z2 := b2.size
      have HP_2 := Lib.hid (HP_1.out.below b2)
      have HQ_2 := Lib.hid (HQ_1.out.below b2)
      have Ha_2 := Lib.hid (Ha_1.out.below b2)
      have Hb_2 := Lib.hid (Hb_1.out.below b2)
      clear lt_a r_a0 r_a1 r_a2 r_a3 r_a4 r_a5 r_a6 lt_b r_b0 r_b1 r_b2 r_b3 r_b4 r_b5 r_b6 r_b7 r_b8
      clear HP_1 HQ_1 Ha_1 Hb_1
      have lt_a := Ha_2.out.lt
      have r_a0 : v2.cell? ⟨w.heap.size, 0, none⟩ = some (.int .i64 i0) := Ha_2.out.cell 0
      have r_a1 : v2.cell? ⟨w.heap.size, 1, none⟩ = some (.int .i64 t0) := Ha_2.out.cell 1
      have r_a2 : v2.cell? ⟨w.heap.size, 2, none⟩ = some (.slice A n c) := Ha_2.out.cell 2
      have r_a3 : v2.cell? ⟨w.heap.size, 3, none⟩ = some (.slice B m d) := Ha_2.out.cell 3
      have r_a4 : v2.cell? ⟨w.heap.size, 4, none⟩ = some (.int .i64 l0) := Ha_2.out.cell 4
      have r_a5 : v2.cell? ⟨w.heap.size, 5, none⟩ = some (.int .i64 l1) := Ha_2.out.cell 5
      have r_a6 : v2.cell? ⟨w.heap.size, 6, none⟩ = some (.int .i64 l2) := Ha_2.out.cell 6
      have lt_b := Hb_2.out.lt
      have r_b0 : v2.cell? ⟨g1, 0, none⟩ = some (.int .i64 ex) := Hb_2.out.cell 0
      have r_b1 : v2.cell? ⟨g1, 1, none⟩ = some (.int .i64 et) := Hb_2.out.cell 1
      have r_b2 : v2.cell? ⟨g1, 2, none⟩ = some (.int .i64 ec) := Hb_2.out.cell 2
      have r_b3 : v2.cell? ⟨g1, 3, none⟩ = some (.int .i64 es) := Hb_2.out.cell 3
      have r_b4 : v2.cell? ⟨g1, 4, none⟩ = some (.int .i64 ek) := Hb_2.out.cell 4
      have r_b5 : v2.cell? ⟨g1, 5, none⟩ = some (.int .i64 ea) := Hb_2.out.cell 5
      have r_b6 : v2.cell? ⟨g1, 6, none⟩ = some (.int .i64 eb) := Hb_2.out.cell 6
      have r_b7 : v2.cell? ⟨g1, 7, none⟩ = some (.int .i64 eg) := Hb_2.out.cell 7
      have r_b8 : v2.cell? ⟨g1, 8, none⟩ = some (.int .i64 eh) := Hb_2.out.cell 8
      have hv : nextB i0 t0 ex et ec es ek ea eb eg eh = false := by unfold nextB; rw [Hr1.out]; simp
      have HV := Lib.hid hv
      clear hv
      go_wp21
      go_ret
      exact ⟨ret_bool (HX.out.trans HV.out).symm, f2⟩
    | true =>
      rw [r1] at cc
      have Hr1 := Lib.hid r1
      clear r1
      go_wp2_with fail
      refine (cc).mono ?_
      rintro e v2 ⟨rfl, b2⟩
      have f2 := bthen f1 b2
      have z2 := b2.size
      have HP_2 := Lib.hid (HP_1.out.below b2)
      have HQ_2 := Lib.hid (HQ_1.out.below b2)
      have Ha_2 := Lib.hid (Ha_1.out.below b2)
      have Hb_2 := Lib.hid (Hb_1.out.below b2)
      clear lt_a r_a0 r_a1 r_a2 r_a3 r_a4 r_a5 r_a6 lt_b r_b0 r_b1 r_b2 r_b3 r_b4 r_b5 r_b6 r_b7 r_b8
      clear HP_1 HQ_1 Ha_1 Hb_1
      have lt_a := Ha_2.out.lt
      have r_a0 : v2.cell? ⟨w.heap.size, 0, none⟩ = some (.int .i64 i0) := Ha_2.out.cell 0
      have r_a1 : v2.cell? ⟨w.heap.size, 1, none⟩ = some (.int .i64 t0) := Ha_2.out.cell 1
      have r_a2 : v2.cell? ⟨w.heap.size, 2, none⟩ = some (.slice A n c) := Ha_2.out.cell 2
      have r_a3 : v2.cell? ⟨w.heap.size, 3, none⟩ = some (.slice B m d) := Ha_2.out.cell 3
      have r_a4 : v2.cell? ⟨w.heap.size, 4, none⟩ = some (.int .i64 l0) := Ha_2.out.cell 4
      have r_a5 : v2.cell? ⟨w.heap.size, 5, none⟩ = some (.int .i64 l1) := Ha_2.out.cell 5
      have r_a6 : v2.cell? ⟨w.heap.size, 6, none⟩ = some (.int .i64 l2) := Ha_2.out.cell 6
      have lt_b := Hb_2.out.lt
      have r_b0 : v2.cell? ⟨g1, 0, none⟩ = some (.int .i64 ex) := Hb_2.out.cell 0
      have r_b1 : v2.cell? ⟨g1, 1, none⟩ = some (.int .i64 et) := Hb_2.out.cell 1
      have r_b2 : v2.cell? ⟨g1, 2, none⟩ = some (.int .i64 ec) := Hb_2.out.cell 2
      have r_b3 : v2.cell? ⟨g1, 3, none⟩ = some (.int .i64 es) := Hb_2.out.cell 3
      have r_b4 : v2.cell? ⟨g1, 4, none⟩ = some (.int .i64 ek) := Hb_2.out.cell 4
      have r_b5 : v2.cell? ⟨g1, 5, none⟩ = some (.int .i64 ea) := Hb_2.out.cell 5
      have r_b6 : v2.cell? ⟨g1, 6, none⟩ = some (.int .i64 eb) := Hb_2.out.cell 6
      have r_b7 : v2.cell? ⟨g1, 7, none⟩ = some (.int .i64 eg) := Hb_2.out.cell 7
      have r_b8 : v2.cell? ⟨g1, 8, none⟩ = some (.int .i64 eh) := Hb_2.out.cell 8
      clear cc
      cases r2 : (ex == i0 + 1) with
      | false =>
        have Hr2 := Lib.hid r2
        have hv : nextB i0 t0 ex et ec es ek ea eb eg eh = false := by unfold nextB; rw [Hr1.out, Hr2.out]; simp
        have HV := Lib.hid hv
        clear hv
        go_wp21
        go_ret
        exact ⟨ret_bool (HX.out.trans HV.out).symm, f2⟩
      | true =>
        have Hr2 : Hid ((ex == i0 + 1) = true) := r2
        cases r3 : (decide (t0 ≤ et)) with
        | false =>
          have Hr3 := Lib.hid r3
          have hle : et < t0 := by have := of_decide_eq_false r3; omega
          have hv : nextB i0 t0 ex et ec es ek ea eb eg eh = false := by unfold nextB; rw [Hr1.out, Hr2.out, Hr3.out]; simp
          have HV := Lib.hid hv
          clear hv
          go_wp21
          go_ret
          exact ⟨ret_bool (HX.out.trans HV.out).symm, f2⟩
        | true =>
          have Hr3 : Hid ((decide (t0 ≤ et)) = true) := r3
          have hle : t0 ≤ et := of_decide_eq_true r3
          have hv : nextB i0 t0 ex et ec es ek ea eb eg eh = true := by unfold nextB; rw [Hr1.out, Hr2.out, Hr3.out]; rfl
          have HV := Lib.hid hv
          clear hv
          go_wp21
          go_ret
          exact ⟨ret_bool (HX.out.trans HV.out).symm, f2⟩
end Go.Proofs.Ytodkcanhlpgpgaa

/- Part 3 of what the claim rests on: S3, J5, S4, OnceL, P8, PutL, Del, P10, Lease5, EfL, FoldL. No condition of its own. -/
import Derived.Test.YtokklkmibjpjnaaGreatBd2
import Derived.Deep.RegionLaw
namespace Go.Proofs.YtokklkmibjpjnaaGreat
set_option linter.unusedSimpArgs false
set_option linter.unusedVariables false
attribute [local go_sem] n_lt2 n_lt3 n_lt4 n_le2 n_le3
open Go.RowKit
def entryB (ex et ec es ek ea eb eg eh : Int) : Bool := inB ex 1 2000 && (inB et 0 1000000 && (inB ec 2 5 && (inB es 1 2000 && opB ek ea eb eg eh)))
def nextB (i0 t0 ex et ec es ek ea eb eg eh : Int) : Bool := entryB ex et ec es ek ea eb eg eh && ((ex == i0 + 1) && decide (t0 ≤ et))
def nextInB (i0 t0 l0 l1 l2 : Int) (pl : List Pr) (ql : List Jb) (ex et ec es ek ea eb eg eh : Int) : Bool := stateB i0 t0 l0 l1 l2 pl ql && nextB i0 t0 ex et ec es ek ea eb eg eh
theorem stateB_i {i0 t0 l0 l1 l2 : Int} {pl : List Pr} {ql : List Jb} (h : stateB i0 t0 l0 l1 l2 pl ql = true) : 0 ≤ i0 ∧ i0 ≤ 2000 := by
  unfold stateB at h
  simp only [Bool.and_eq_true, inB_iff] at h
  exact h.1
attribute [local go_sem] Ext.cell Ext.frozen
set_option maxRecDepth 100000 in
set_option maxHeartbeats 2000000 in
theorem entryOk_any (ex et ec es ek ea eb eg eh : Int) (w : World) :
    Calls Tryz.prog 79 #[.agg #[.int .i64 ex, .int .i64 et, .int .i64 ec, .int .i64 es, .int .i64 ek, .int .i64 ea, .int .i64 eb, .int .i64 eg, .int .i64 eh]] w fun e' w' => e' = .returned (.bool (entryB ex et ec es ek ea eb eg eh)) ∧ Below w.heap.size w w' := by
  go_enter Tryz.func79, Tryz.ntmps79
  go_wp2_with fail
  refine calls_named ?_
  rintro v0 hv0
  have f0 : Below w.heap.size w v0 := by rw [hv0]; (repeat' (first | (with_reducible exact Below.refl _ _) | (with_reducible assumption) | (with_reducible refine Below.alloc ?_ ?_ _) | (with_reducible refine Below.drew ?_) | (with_reducible refine Below.setCell ?_ ?_ _) | (with_reducible refine bstep (by assumption) ?_ ?_) | (with_reducible exact Nat.le_refl _) | omega | (simp [*]; done) | (simp [*]; omega)))
  have z0 : w.heap.size + 1 ≤ v0.heap.size := by rw [hv0]; simp [size_set]
  have Ha_0 : Hid (Blk v0 w.heap.size 43 #[.int .i64 ex, .int .i64 et, .int .i64 ec, .int .i64 es, .int .i64 ek, .int .i64 ea, .int .i64 eb, .int .i64 eg, .int .i64 eh]) := by rw [hv0]; exact Blk.new_at _ _ _ _ (by simp)
  clear hv0
  have lt_a := Ha_0.out.lt
  obtain ⟨r_a0, r_a1, r_a2, r_a3, r_a4, r_a5, r_a6, r_a7, r_a8⟩ := bc9 Ha_0.out
  have cc := indexOk_any ex v0
  cases q1 : (inB ex 1 2000) with
  | false =>
    rw [q1] at cc
    have Hq1 := Lib.hid q1
    clear q1
    refine (cc).mono ?_
    rintro e v' ⟨rfl, rfl⟩
    have hv : entryB ex et ec es ek ea eb eg eh = false := by unfold entryB; rw [Hq1.out]; simp
    have HV := Lib.hid hv
    clear hv
    go_wp21
    go_ret
    exact ⟨ret_bool HV.out.symm, f0⟩
  | true =>
    rw [q1] at cc
    have Hq1 := Lib.hid q1
    clear q1
    refine (cc).mono ?_
    rintro e v' ⟨rfl, rfl⟩
    clear cc
    have cc := timeOk_any et v0
    cases q2 : (inB et 0 1000000) with
    | false =>
      rw [q2] at cc
      have Hq2 := Lib.hid q2
      clear q2
      go_wp2_with fail
      refine (cc).mono ?_
      rintro e v' ⟨rfl, rfl⟩
      have hv : entryB ex et ec es ek ea eb eg eh = false := by unfold entryB; rw [Hq1.out, Hq2.out]; simp
      have HV := Lib.hid hv
      clear hv
      go_wp21
      go_ret
      exact ⟨ret_bool HV.out.symm, f0⟩
    | true =>
      rw [q2] at cc
      have Hq2 := Lib.hid q2
      clear q2
      go_wp2_with fail
      refine (cc).mono ?_
      rintro e v' ⟨rfl, rfl⟩
      clear cc
      have cc := askerOk_any ec v0
      cases q3 : (inB ec 2 5) with
      | false =>
        rw [q3] at cc
        have Hq3 := Lib.hid q3
        clear q3
        go_wp2_with fail
        refine (cc).mono ?_
        rintro e v' ⟨rfl, rfl⟩
        have hv : entryB ex et ec es ek ea eb eg eh = false := by unfold entryB; rw [Hq1.out, Hq2.out, Hq3.out]; simp
        have HV := Lib.hid hv
        clear hv
        go_wp21
        go_ret
        exact ⟨ret_bool HV.out.symm, f0⟩
      | true =>
        rw [q3] at cc
        have Hq3 := Lib.hid q3
        clear q3
        go_wp2_with fail
        refine (cc).mono ?_
        rintro e v' ⟨rfl, rfl⟩
        clear cc
        have cc := seqOk_any es v0
        cases q4 : (inB es 1 2000) with
        | false =>
          rw [q4] at cc
          have Hq4 := Lib.hid q4
          clear q4
          go_wp2_with fail
          refine (cc).mono ?_
          rintro e v' ⟨rfl, rfl⟩
          have hv : entryB ex et ec es ek ea eb eg eh = false := by unfold entryB; rw [Hq1.out, Hq2.out, Hq3.out, Hq4.out]; simp
          have HV := Lib.hid hv
          clear hv
          go_wp21
          go_ret
          exact ⟨ret_bool HV.out.symm, f0⟩
        | true =>
          rw [q4] at cc
          have Hq4 := Lib.hid q4
          clear q4
          go_wp2_with fail
          refine (cc).mono ?_
          rintro e v' ⟨rfl, rfl⟩
          clear cc
          have cc := opOk_any ek ea eb eg eh v0
          cases q5 : (opB ek ea eb eg eh) with
          | false =>
            rw [q5] at cc
            have Hq5 := Lib.hid q5
            clear q5
            go_wp2_with fail
            refine (cc).mono ?_
            rintro e v1 ⟨rfl, b1⟩
            have f1 := bthen f0 b1
            have z1 := b1.size
            have Ha_1 := Lib.hid (Ha_0.out.below b1)
            clear lt_a r_a0 r_a1 r_a2 r_a3 r_a4 r_a5 r_a6 r_a7 r_a8
            clear Ha_0
            have lt_a := Ha_1.out.lt
            obtain ⟨r_a0, r_a1, r_a2, r_a3, r_a4, r_a5, r_a6, r_a7, r_a8⟩ := bc9 Ha_1.out
            have hv : entryB ex et ec es ek ea eb eg eh = false := by unfold entryB; rw [Hq1.out, Hq2.out, Hq3.out, Hq4.out, Hq5.out]; simp
            have HV := Lib.hid hv
            clear hv
            go_wp21
            go_ret
            exact ⟨ret_bool HV.out.symm, f1⟩
          | true =>
            rw [q5] at cc
            have Hq5 := Lib.hid q5
            clear q5
            go_wp2_with fail
            refine (cc).mono ?_
            rintro e v1 ⟨rfl, b1⟩
            have f1 := bthen f0 b1
            have z1 := b1.size
            have Ha_1 := Lib.hid (Ha_0.out.below b1)
            clear lt_a r_a0 r_a1 r_a2 r_a3 r_a4 r_a5 r_a6 r_a7 r_a8
            clear Ha_0
            have lt_a := Ha_1.out.lt
            obtain ⟨r_a0, r_a1, r_a2, r_a3, r_a4, r_a5, r_a6, r_a7, r_a8⟩ := bc9 Ha_1.out
            clear cc
            have hv : entryB ex et ec es ek ea eb eg eh = true := by unfold entryB; rw [Hq1.out, Hq2.out, Hq3.out, Hq4.out, Hq5.out]; rfl
            have HV := Lib.hid hv
            clear hv
            go_wp21
            go_ret
            exact ⟨ret_bool HV.out.symm, f1⟩
set_option maxRecDepth 100000 in
set_option maxHeartbeats 2000000 in
theorem specEntryOk_any (ex et ec es ek ea eb eg eh : Int) (w : World) :
    Calls Tryz.prog 85 #[.agg #[.int .i64 ex, .int .i64 et, .int .i64 ec, .int .i64 es, .int .i64 ek, .int .i64 ea, .int .i64 eb, .int .i64 eg, .int .i64 eh]] w fun e' w' => e' = .returned (.bool (entryB ex et ec es ek ea eb eg eh)) ∧ Below w.heap.size w w' := by
  go_enter Tryz.func85, Tryz.ntmps85
  go_wp2_with fail
  refine calls_named ?_
  rintro v0 hv0
  have f0 : Below w.heap.size w v0 := by rw [hv0]; (repeat' (first | (with_reducible exact Below.refl _ _) | (with_reducible assumption) | (with_reducible refine Below.alloc ?_ ?_ _) | (with_reducible refine Below.drew ?_) | (with_reducible refine Below.setCell ?_ ?_ _) | (with_reducible refine bstep (by assumption) ?_ ?_) | (with_reducible exact Nat.le_refl _) | omega | (simp [*]; done) | (simp [*]; omega)))
  have z0 : w.heap.size + 1 ≤ v0.heap.size := by rw [hv0]; simp [size_set]
  have Ha_0 : Hid (Blk v0 w.heap.size 43 #[.int .i64 ex, .int .i64 et, .int .i64 ec, .int .i64 es, .int .i64 ek, .int .i64 ea, .int .i64 eb, .int .i64 eg, .int .i64 eh]) := by rw [hv0]; exact Blk.new_at _ _ _ _ (by simp)
  clear hv0
  have lt_a := Ha_0.out.lt
  obtain ⟨r_a0, r_a1, r_a2, r_a3, r_a4, r_a5, r_a6, r_a7, r_a8⟩ := bc9 Ha_0.out
  have cc := l7Index_any ex v0
  cases q1 : (inB ex 1 2000) with
  | false =>
    rw [q1] at cc
    have Hq1 := Lib.hid q1
    clear q1
    refine (cc).mono ?_
    rintro e v' ⟨rfl, rfl⟩
    have hv : entryB ex et ec es ek ea eb eg eh = false := by unfold entryB; rw [Hq1.out]; simp
    have HV := Lib.hid hv
    clear hv
    go_wp21
    go_ret
    exact ⟨ret_bool HV.out.symm, f0⟩
  | true =>
    rw [q1] at cc
    have Hq1 := Lib.hid q1
    clear q1
    refine (cc).mono ?_
    rintro e v' ⟨rfl, rfl⟩
    clear cc
    have cc := specTimeOk_any et v0
    cases q2 : (inB et 0 1000000) with
    | false =>
      rw [q2] at cc
      have Hq2 := Lib.hid q2
      clear q2
      go_wp2_with fail
      refine (cc).mono ?_
      rintro e v' ⟨rfl, rfl⟩
      have hv : entryB ex et ec es ek ea eb eg eh = false := by unfold entryB; rw [Hq1.out, Hq2.out]; simp
      have HV := Lib.hid hv
      clear hv
      go_wp21
      go_ret
      exact ⟨ret_bool HV.out.symm, f0⟩
    | true =>
      rw [q2] at cc
      have Hq2 := Lib.hid q2
      clear q2
      go_wp2_with fail
      refine (cc).mono ?_
      rintro e v' ⟨rfl, rfl⟩
      clear cc
      have cc := specAskerOk_any ec v0
      cases q3 : (inB ec 2 5) with
      | false =>
        rw [q3] at cc
        have Hq3 := Lib.hid q3
        clear q3
        go_wp2_with fail
        refine (cc).mono ?_
        rintro e v' ⟨rfl, rfl⟩
        have hv : entryB ex et ec es ek ea eb eg eh = false := by unfold entryB; rw [Hq1.out, Hq2.out, Hq3.out]; simp
        have HV := Lib.hid hv
        clear hv
        go_wp21
        go_ret
        exact ⟨ret_bool HV.out.symm, f0⟩
      | true =>
        rw [q3] at cc
        have Hq3 := Lib.hid q3
        clear q3
        go_wp2_with fail
        refine (cc).mono ?_
        rintro e v' ⟨rfl, rfl⟩
        clear cc
        have cc := l7Seq_any es v0
        cases q4 : (inB es 1 2000) with
        | false =>
          rw [q4] at cc
          have Hq4 := Lib.hid q4
          clear q4
          go_wp2_with fail
          refine (cc).mono ?_
          rintro e v' ⟨rfl, rfl⟩
          have hv : entryB ex et ec es ek ea eb eg eh = false := by unfold entryB; rw [Hq1.out, Hq2.out, Hq3.out, Hq4.out]; simp
          have HV := Lib.hid hv
          clear hv
          go_wp21
          go_ret
          exact ⟨ret_bool HV.out.symm, f0⟩
        | true =>
          rw [q4] at cc
          have Hq4 := Lib.hid q4
          clear q4
          go_wp2_with fail
          refine (cc).mono ?_
          rintro e v' ⟨rfl, rfl⟩
          clear cc
          have cc := specOpOk_any ek ea eb eg eh v0
          cases q5 : (opB ek ea eb eg eh) with
          | false =>
            rw [q5] at cc
            have Hq5 := Lib.hid q5
            clear q5
            go_wp2_with fail
            refine (cc).mono ?_
            rintro e v1 ⟨rfl, b1⟩
            have f1 := bthen f0 b1
            have z1 := b1.size
            have Ha_1 := Lib.hid (Ha_0.out.below b1)
            clear lt_a r_a0 r_a1 r_a2 r_a3 r_a4 r_a5 r_a6 r_a7 r_a8
            clear Ha_0
            have lt_a := Ha_1.out.lt
            obtain ⟨r_a0, r_a1, r_a2, r_a3, r_a4, r_a5, r_a6, r_a7, r_a8⟩ := bc9 Ha_1.out
            have hv : entryB ex et ec es ek ea eb eg eh = false := by unfold entryB; rw [Hq1.out, Hq2.out, Hq3.out, Hq4.out, Hq5.out]; simp
            have HV := Lib.hid hv
            clear hv
            go_wp21
            go_ret
            exact ⟨ret_bool HV.out.symm, f1⟩
          | true =>
            rw [q5] at cc
            have Hq5 := Lib.hid q5
            clear q5
            go_wp2_with fail
            refine (cc).mono ?_
            rintro e v1 ⟨rfl, b1⟩
            have f1 := bthen f0 b1
            have z1 := b1.size
            have Ha_1 := Lib.hid (Ha_0.out.below b1)
            clear lt_a r_a0 r_a1 r_a2 r_a3 r_a4 r_a5 r_a6 r_a7 r_a8
            clear Ha_0
            have lt_a := Ha_1.out.lt
            obtain ⟨r_a0, r_a1, r_a2, r_a3, r_a4, r_a5, r_a6, r_a7, r_a8⟩ := bc9 Ha_1.out
            clear cc
            have hv : entryB ex et ec es ek ea eb eg eh = true := by unfold entryB; rw [Hq1.out, Hq2.out, Hq3.out, Hq4.out, Hq5.out]; rfl
            have HV := Lib.hid hv
            clear hv
            go_wp21
            go_ret
            exact ⟨ret_bool HV.out.symm, f1⟩
set_option maxRecDepth 100000 in
set_option maxHeartbeats 2000000 in
theorem nextIn_any (A : Option Addr) (n c : Nat) (B : Option Addr) (m d : Nat) (i0 t0 l0 l1 l2 : Int) (ex et ec es ek ea eb eg eh : Int) (w : World) (hi0 : 0 ≤ i0) (hi1 : i0 ≤ 2000) :
    Calls Tryz.prog 41 #[.agg #[.int .i64 i0, .int .i64 t0, .slice A n c, .slice B m d, .int .i64 l0, .int .i64 l1, .int .i64 l2], .agg #[.int .i64 ex, .int .i64 et, .int .i64 ec, .int .i64 es, .int .i64 ek, .int .i64 ea, .int .i64 eb, .int .i64 eg, .int .i64 eh]] w fun e' w' => e' = .returned (.bool (nextB i0 t0 ex et ec es ek ea eb eg eh)) ∧ Below w.heap.size w w' := by
  go_enter Tryz.func41, Tryz.ntmps41
  go_wp2_with fail
  refine calls_named ?_
  rintro v0 hv0
  have f0 : Below w.heap.size w v0 := by rw [hv0]; (repeat' (first | (with_reducible exact Below.refl _ _) | (with_reducible assumption) | (with_reducible refine Below.alloc ?_ ?_ _) | (with_reducible refine Below.drew ?_) | (with_reducible refine Below.setCell ?_ ?_ _) | (with_reducible refine bstep (by assumption) ?_ ?_) | (with_reducible exact Nat.le_refl _) | omega | (simp [*]; done) | (simp [*]; omega)))
  have z0 : w.heap.size + 2 ≤ v0.heap.size := by rw [hv0]; simp [size_set]
  have Ha_0 : Hid (Blk v0 w.heap.size 37 #[.int .i64 i0, .int .i64 t0, .slice A n c, .slice B m d, .int .i64 l0, .int .i64 l1, .int .i64 l2]) := by rw [hv0]; exact (Blk.new_at _ _ _ _ (by simp)).alloc _
  have Hb_0 : Hid (Blk v0 (w.heap.size + 1) 43 #[.int .i64 ex, .int .i64 et, .int .i64 ec, .int .i64 es, .int .i64 ek, .int .i64 ea, .int .i64 eb, .int .i64 eg, .int .i64 eh]) := by rw [hv0]; exact Blk.new_at _ _ _ _ (by simp)
  clear hv0
  generalize hg1 : w.heap.size + 1 = g1 at *
  have lg1 : w.heap.size < g1 := by omega
  have lgz : g1 < v0.heap.size := by omega
  have nq1x0 : ¬ g1 = w.heap.size := by omega
  have nq0x1 : ¬ w.heap.size = g1 := by omega
  clear hg1
  have lt_a := Ha_0.out.lt
  obtain ⟨r_a0, r_a1, r_a2, r_a3, r_a4, r_a5, r_a6⟩ := bc7 Ha_0.out
  have lt_b := Hb_0.out.lt
  obtain ⟨r_b0, r_b1, r_b2, r_b3, r_b4, r_b5, r_b6, r_b7, r_b8⟩ := bc9 Hb_0.out
  have cc := entryOk_any ex et ec es ek ea eb eg eh v0
  cases r1 : (entryB ex et ec es ek ea eb eg eh) with
  | false =>
    rw [r1] at cc
    have Hr1 := Lib.hid r1
    clear r1
    refine (cc).mono ?_
    rintro e v1 ⟨rfl, b1⟩
    have f1 := bthen f0 b1
    have z1 := b1.size
    have Ha_1 := Lib.hid (Ha_0.out.below b1)
    have Hb_1 := Lib.hid (Hb_0.out.below b1)
    clear lt_a r_a0 r_a1 r_a2 r_a3 r_a4 r_a5 r_a6 lt_b r_b0 r_b1 r_b2 r_b3 r_b4 r_b5 r_b6 r_b7 r_b8
    clear Ha_0 Hb_0
    have lt_a := Ha_1.out.lt
    obtain ⟨r_a0, r_a1, r_a2, r_a3, r_a4, r_a5, r_a6⟩ := bc7 Ha_1.out
    have lt_b := Hb_1.out.lt
    obtain ⟨r_b0, r_b1, r_b2, r_b3, r_b4, r_b5, r_b6, r_b7, r_b8⟩ := bc9 Hb_1.out
    have hv : nextB i0 t0 ex et ec es ek ea eb eg eh = false := by unfold nextB; rw [Hr1.out]; simp
    have HV := Lib.hid hv
    clear hv
    go_wp21
    go_ret
    exact ⟨ret_bool HV.out.symm, f1⟩
  | true =>
    rw [r1] at cc
    have Hr1 := Lib.hid r1
    clear r1
    refine (cc).mono ?_
    rintro e v1 ⟨rfl, b1⟩
    have f1 := bthen f0 b1
    have z1 := b1.size
    have Ha_1 := Lib.hid (Ha_0.out.below b1)
    have Hb_1 := Lib.hid (Hb_0.out.below b1)
    clear lt_a r_a0 r_a1 r_a2 r_a3 r_a4 r_a5 r_a6 lt_b r_b0 r_b1 r_b2 r_b3 r_b4 r_b5 r_b6 r_b7 r_b8
    clear Ha_0 Hb_0
    have lt_a := Ha_1.out.lt
    obtain ⟨r_a0, r_a1, r_a2, r_a3, r_a4, r_a5, r_a6⟩ := bc7 Ha_1.out
    have lt_b := Hb_1.out.lt
    obtain ⟨r_b0, r_b1, r_b2, r_b3, r_b4, r_b5, r_b6, r_b7, r_b8⟩ := bc9 Hb_1.out
    clear cc
    cases r2 : (ex == i0 + 1) with
    | false =>
      have Hr2 := Lib.hid r2
      have hv : nextB i0 t0 ex et ec es ek ea eb eg eh = false := by unfold nextB; rw [Hr1.out, Hr2.out]; simp
      have HV := Lib.hid hv
      clear hv
      go_wp21
      go_ret
      exact ⟨ret_bool HV.out.symm, f1⟩
    | true =>
      have Hr2 : Hid ((ex == i0 + 1) = true) := r2
      cases r3 : (decide (t0 ≤ et)) with
      | false =>
        have Hr3 := Lib.hid r3
        have hle : et < t0 := by have := of_decide_eq_false r3; omega
        have hv : nextB i0 t0 ex et ec es ek ea eb eg eh = false := by unfold nextB; rw [Hr1.out, Hr2.out, Hr3.out]; simp
        have HV := Lib.hid hv
        clear hv
        go_wp21
        go_ret
        exact ⟨ret_bool HV.out.symm, f1⟩
      | true =>
        have Hr3 : Hid ((decide (t0 ≤ et)) = true) := r3
        have hle : t0 ≤ et := of_decide_eq_true r3
        have hv : nextB i0 t0 ex et ec es ek ea eb eg eh = true := by unfold nextB; rw [Hr1.out, Hr2.out, Hr3.out]; rfl
        have HV := Lib.hid hv
        clear hv
        go_wp21
        go_ret
        exact ⟨ret_bool HV.out.symm, f1⟩
set_option maxRecDepth 100000 in
set_option maxHeartbeats 2000000 in
theorem NextIn_any (A : Option Addr) (n c : Nat) (B : Option Addr) (m d : Nat) (i0 t0 l0 l1 l2 : Int) (pl : List Pr) (ql : List Jb) (ex et ec es ek ea eb eg eh : Int) (w : World) (hP : Sl w 2 A n (PR pl)) (hQ : Sl w 5 B m (JB ql)) (hl : pl.length = n) (hr : ql.length = m) (hn : n ≤ maxLen) (hm : m ≤ maxLen) :
    Calls Tryz.prog 54 #[.agg #[.int .i64 i0, .int .i64 t0, .slice A n c, .slice B m d, .int .i64 l0, .int .i64 l1, .int .i64 l2], .agg #[.int .i64 ex, .int .i64 et, .int .i64 ec, .int .i64 es, .int .i64 ek, .int .i64 ea, .int .i64 eb, .int .i64 eg, .int .i64 eh]] w fun e' w' => e' = .returned (.bool (nextInB i0 t0 l0 l1 l2 pl ql ex et ec es ek ea eb eg eh)) ∧ Below w.heap.size w w' := by
  have hL := Lib.hid hl
  have hR := Lib.hid hr
  have HP := Lib.hid hP
  have HQ := Lib.hid hQ
  clear hP hQ hl hr
  go_enter Tryz.func54, Tryz.ntmps54
  go_wp2_with fail
  refine calls_named ?_
  rintro v0 hv0
  have f0 : Below w.heap.size w v0 := by rw [hv0]; (repeat' (first | (with_reducible exact Below.refl _ _) | (with_reducible assumption) | (with_reducible refine Below.alloc ?_ ?_ _) | (with_reducible refine Below.drew ?_) | (with_reducible refine Below.setCell ?_ ?_ _) | (with_reducible refine bstep (by assumption) ?_ ?_) | (with_reducible exact Nat.le_refl _) | omega | (simp [*]; done) | (simp [*]; omega)))
  have z0 : w.heap.size + 2 ≤ v0.heap.size := by rw [hv0]; simp [size_set]
  have HP_0 := Lib.hid (HP.out.below f0)
  have HP_lt := Lib.hid (fun hn => HP.out.lt hn)
  have HQ_0 := Lib.hid (HQ.out.below f0)
  have HQ_lt := Lib.hid (fun hn => HQ.out.lt hn)
  have Ha_0 : Hid (Blk v0 w.heap.size 37 #[.int .i64 i0, .int .i64 t0, .slice A n c, .slice B m d, .int .i64 l0, .int .i64 l1, .int .i64 l2]) := by rw [hv0]; exact (Blk.new_at _ _ _ _ (by simp)).alloc _
  have Hb_0 : Hid (Blk v0 (w.heap.size + 1) 43 #[.int .i64 ex, .int .i64 et, .int .i64 ec, .int .i64 es, .int .i64 ek, .int .i64 ea, .int .i64 eb, .int .i64 eg, .int .i64 eh]) := by rw [hv0]; exact Blk.new_at _ _ _ _ (by simp)
  clear hv0
  generalize hg1 : w.heap.size + 1 = g1 at *
  have lg1 : w.heap.size < g1 := by omega
  have lgz : g1 < v0.heap.size := by omega
  have nq1x0 : ¬ g1 = w.heap.size := by omega
  have nq0x1 : ¬ w.heap.size = g1 := by omega
  clear hg1
  have lt_a := Ha_0.out.lt
  obtain ⟨r_a0, r_a1, r_a2, r_a3, r_a4, r_a5, r_a6⟩ := bc7 Ha_0.out
  have lt_b := Hb_0.out.lt
  obtain ⟨r_b0, r_b1, r_b2, r_b3, r_b4, r_b5, r_b6, r_b7, r_b8⟩ := bc9 Hb_0.out
  have cc := stateOk_any A n c B m d i0 t0 l0 l1 l2 pl ql v0 HP_0.out HQ_0.out hL.out hR.out hn hm
  cases r0 : (stateB i0 t0 l0 l1 l2 pl ql) with
  | false =>
    rw [r0] at cc
    have Hr0 := Lib.hid r0
    clear r0
    refine (cc).mono ?_
    rintro e v1 ⟨rfl, b1⟩
    have f1 := bthen f0 b1
    have z1 := b1.size
    have HP_1 := Lib.hid (HP_0.out.below b1)
    have HQ_1 := Lib.hid (HQ_0.out.below b1)
    have Ha_1 := Lib.hid (Ha_0.out.below b1)
    have Hb_1 := Lib.hid (Hb_0.out.below b1)
    clear lt_a r_a0 r_a1 r_a2 r_a3 r_a4 r_a5 r_a6 lt_b r_b0 r_b1 r_b2 r_b3 r_b4 r_b5 r_b6 r_b7 r_b8
    clear HP_0 HQ_0 Ha_0 Hb_0
    have lt_a := Ha_1.out.lt
    obtain ⟨r_a0, r_a1, r_a2, r_a3, r_a4, r_a5, r_a6⟩ := bc7 Ha_1.out
    have lt_b := Hb_1.out.lt
    obtain ⟨r_b0, r_b1, r_b2, r_b3, r_b4, r_b5, r_b6, r_b7, r_b8⟩ := bc9 Hb_1.out
    have hv : nextInB i0 t0 l0 l1 l2 pl ql ex et ec es ek ea eb eg eh = false := by unfold nextInB; rw [Hr0.out]; simp
    have HV := Lib.hid hv
    clear hv
    go_wp21
    go_ret
    exact ⟨ret_bool HV.out.symm, f1⟩
  | true =>
    rw [r0] at cc
    have Hr0 := Lib.hid r0
    clear r0
    refine (cc).mono ?_
    rintro e v1 ⟨rfl, b1⟩
    have f1 := bthen f0 b1
    have z1 := b1.size
    have HP_1 := Lib.hid (HP_0.out.below b1)
    have HQ_1 := Lib.hid (HQ_0.out.below b1)
    have Ha_1 := Lib.hid (Ha_0.out.below b1)
    have Hb_1 := Lib.hid (Hb_0.out.below b1)
    clear lt_a r_a0 r_a1 r_a2 r_a3 r_a4 r_a5 r_a6 lt_b r_b0 r_b1 r_b2 r_b3 r_b4 r_b5 r_b6 r_b7 r_b8
    clear HP_0 HQ_0 Ha_0 Hb_0
    have lt_a := Ha_1.out.lt
    obtain ⟨r_a0, r_a1, r_a2, r_a3, r_a4, r_a5, r_a6⟩ := bc7 Ha_1.out
    have lt_b := Hb_1.out.lt
    obtain ⟨r_b0, r_b1, r_b2, r_b3, r_b4, r_b5, r_b6, r_b7, r_b8⟩ := bc9 Hb_1.out
    clear cc
    obtain ⟨hi0, hi1⟩ := stateB_i Hr0.out
    have c9 := nextIn_any A n c B m d i0 t0 l0 l1 l2 ex et ec es ek ea eb eg eh v1 hi0 hi1
    have hv : nextInB i0 t0 l0 l1 l2 pl ql ex et ec es ek ea eb eg eh = nextB i0 t0 ex et ec es ek ea eb eg eh := by unfold nextInB; rw [Hr0.out]; rfl
    have HV := Lib.hid hv
    clear hv
    generalize nextB i0 t0 ex et ec es ek ea eb eg eh = q at c9 HV
    go_wp2_with fail
    refine (c9).mono ?_
    rintro e v2 ⟨rfl, b2⟩
    have f2 := bthen f1 b2
    have z2 := b2.size
    have HP_2 := Lib.hid (HP_1.out.below b2)
    have HQ_2 := Lib.hid (HQ_1.out.below b2)
    have Ha_2 := Lib.hid (Ha_1.out.below b2)
    have Hb_2 := Lib.hid (Hb_1.out.below b2)
    clear lt_a r_a0 r_a1 r_a2 r_a3 r_a4 r_a5 r_a6 lt_b r_b0 r_b1 r_b2 r_b3 r_b4 r_b5 r_b6 r_b7 r_b8
    clear HP_1 HQ_1 Ha_1 Hb_1
    have lt_a := Ha_2.out.lt
    obtain ⟨r_a0, r_a1, r_a2, r_a3, r_a4, r_a5, r_a6⟩ := bc7 Ha_2.out
    have lt_b := Hb_2.out.lt
    obtain ⟨r_b0, r_b1, r_b2, r_b3, r_b4, r_b5, r_b6, r_b7, r_b8⟩ := bc9 Hb_2.out
    go_wp21
    go_ret
    exact ⟨ret_bool HV.out.symm, f2⟩
set_option maxRecDepth 100000 in
set_option maxHeartbeats 2000000 in
theorem specNextIn_any (A : Option Addr) (n c : Nat) (B : Option Addr) (m d : Nat) (i0 t0 l0 l1 l2 : Int) (pl : List Pr) (ql : List Jb) (ex et ec es ek ea eb eg eh : Int) (w : World) (hP : Sl w 2 A n (PR pl)) (hQ : Sl w 5 B m (JB ql)) (hl : pl.length = n) (hr : ql.length = m) (hn : n ≤ maxLen) (hm : m ≤ maxLen) :
    Calls Tryz.prog 51 #[.agg #[.int .i64 i0, .int .i64 t0, .slice A n c, .slice B m d, .int .i64 l0, .int .i64 l1, .int .i64 l2], .agg #[.int .i64 ex, .int .i64 et, .int .i64 ec, .int .i64 es, .int .i64 ek, .int .i64 ea, .int .i64 eb, .int .i64 eg, .int .i64 eh]] w fun e' w' => e' = .returned (.bool (nextInB i0 t0 l0 l1 l2 pl ql ex et ec es ek ea eb eg eh)) ∧ Below w.heap.size w w' := by
  have hL := Lib.hid hl
  have hR := Lib.hid hr
  have HP := Lib.hid hP
  have HQ := Lib.hid hQ
  clear hP hQ hl hr
  go_enter Tryz.func51, Tryz.ntmps51
  go_wp2_with fail
  refine calls_named ?_
  rintro v0 hv0
  have f0 : Below w.heap.size w v0 := by rw [hv0]; (repeat' (first | (with_reducible exact Below.refl _ _) | (with_reducible assumption) | (with_reducible refine Below.alloc ?_ ?_ _) | (with_reducible refine Below.drew ?_) | (with_reducible refine Below.setCell ?_ ?_ _) | (with_reducible refine bstep (by assumption) ?_ ?_) | (with_reducible exact Nat.le_refl _) | omega | (simp [*]; done) | (simp [*]; omega)))
  have z0 : w.heap.size + 2 ≤ v0.heap.size := by rw [hv0]; simp [size_set]
  have HP_0 := Lib.hid (HP.out.below f0)
  have HP_lt := Lib.hid (fun hn => HP.out.lt hn)
  have HQ_0 := Lib.hid (HQ.out.below f0)
  have HQ_lt := Lib.hid (fun hn => HQ.out.lt hn)
  have Ha_0 : Hid (Blk v0 w.heap.size 37 #[.int .i64 i0, .int .i64 t0, .slice A n c, .slice B m d, .int .i64 l0, .int .i64 l1, .int .i64 l2]) := by rw [hv0]; exact (Blk.new_at _ _ _ _ (by simp)).alloc _
  have Hb_0 : Hid (Blk v0 (w.heap.size + 1) 43 #[.int .i64 ex, .int .i64 et, .int .i64 ec, .int .i64 es, .int .i64 ek, .int .i64 ea, .int .i64 eb, .int .i64 eg, .int .i64 eh]) := by rw [hv0]; exact Blk.new_at _ _ _ _ (by simp)
  clear hv0
  generalize hg1 : w.heap.size + 1 = g1 at *
  have lg1 : w.heap.size < g1 := by omega
  have lgz : g1 < v0.heap.size := by omega
  have nq1x0 : ¬ g1 = w.heap.size := by omega
  have nq0x1 : ¬ w.heap.size = g1 := by omega
  clear hg1
  have lt_a := Ha_0.out.lt
  obtain ⟨r_a0, r_a1, r_a2, r_a3, r_a4, r_a5, r_a6⟩ := bc7 Ha_0.out
  have lt_b := Hb_0.out.lt
  obtain ⟨r_b0, r_b1, r_b2, r_b3, r_b4, r_b5, r_b6, r_b7, r_b8⟩ := bc9 Hb_0.out
  have cc := specStateOk_any A n c B m d i0 t0 l0 l1 l2 pl ql v0 HP_0.out HQ_0.out hL.out hR.out hn hm
  cases r0 : (stateB i0 t0 l0 l1 l2 pl ql) with
  | false =>
    rw [r0] at cc
    have Hr0 := Lib.hid r0
    clear r0
    refine (cc).mono ?_
    rintro e v1 ⟨rfl, b1⟩
    have f1 := bthen f0 b1
    have z1 := b1.size
    have HP_1 := Lib.hid (HP_0.out.below b1)
    have HQ_1 := Lib.hid (HQ_0.out.below b1)
    have Ha_1 := Lib.hid (Ha_0.out.below b1)
    have Hb_1 := Lib.hid (Hb_0.out.below b1)
    clear lt_a r_a0 r_a1 r_a2 r_a3 r_a4 r_a5 r_a6 lt_b r_b0 r_b1 r_b2 r_b3 r_b4 r_b5 r_b6 r_b7 r_b8
    clear HP_0 HQ_0 Ha_0 Hb_0
    have lt_a := Ha_1.out.lt
    obtain ⟨r_a0, r_a1, r_a2, r_a3, r_a4, r_a5, r_a6⟩ := bc7 Ha_1.out
    have lt_b := Hb_1.out.lt
    obtain ⟨r_b0, r_b1, r_b2, r_b3, r_b4, r_b5, r_b6, r_b7, r_b8⟩ := bc9 Hb_1.out
    have hv : nextInB i0 t0 l0 l1 l2 pl ql ex et ec es ek ea eb eg eh = false := by unfold nextInB; rw [Hr0.out]; simp
    have HV := Lib.hid hv
    clear hv
    go_wp21
    go_ret
    exact ⟨ret_bool HV.out.symm, f1⟩
  | true =>
    rw [r0] at cc
    have Hr0 := Lib.hid r0
    clear r0
    refine (cc).mono ?_
    rintro e v1 ⟨rfl, b1⟩
    have f1 := bthen f0 b1
    have z1 := b1.size
    have HP_1 := Lib.hid (HP_0.out.below b1)
    have HQ_1 := Lib.hid (HQ_0.out.below b1)
    have Ha_1 := Lib.hid (Ha_0.out.below b1)
    have Hb_1 := Lib.hid (Hb_0.out.below b1)
    clear lt_a r_a0 r_a1 r_a2 r_a3 r_a4 r_a5 r_a6 lt_b r_b0 r_b1 r_b2 r_b3 r_b4 r_b5 r_b6 r_b7 r_b8
    clear HP_0 HQ_0 Ha_0 Hb_0
    have lt_a := Ha_1.out.lt
    obtain ⟨r_a0, r_a1, r_a2, r_a3, r_a4, r_a5, r_a6⟩ := bc7 Ha_1.out
    have lt_b := Hb_1.out.lt
    obtain ⟨r_b0, r_b1, r_b2, r_b3, r_b4, r_b5, r_b6, r_b7, r_b8⟩ := bc9 Hb_1.out
    clear cc
    obtain ⟨hi0, hi1⟩ := stateB_i Hr0.out
    have hx : nextInB i0 t0 l0 l1 l2 pl ql ex et ec es ek ea eb eg eh = nextB i0 t0 ex et ec es ek ea eb eg eh := by unfold nextInB; rw [Hr0.out]; rfl
    have HX := Lib.hid hx
    clear hx
    have cc := specEntryOk_any ex et ec es ek ea eb eg eh v1
    cases r1 : (entryB ex et ec es ek ea eb eg eh) with
    | false =>
      rw [r1] at cc
      have Hr1 := Lib.hid r1
      clear r1
      go_wp2_with fail
      refine (cc).mono ?_
      rintro e v2 ⟨rfl, b2⟩
      have f2 := bthen f1 b2
      have z2 := b2.size
      have HP_2 := Lib.hid (HP_1.out.below b2)
      have HQ_2 := Lib.hid (HQ_1.out.below b2)
      have Ha_2 := Lib.hid (Ha_1.out.below b2)
      have Hb_2 := Lib.hid (Hb_1.out.below b2)
      clear lt_a r_a0 r_a1 r_a2 r_a3 r_a4 r_a5 r_a6 lt_b r_b0 r_b1 r_b2 r_b3 r_b4 r_b5 r_b6 r_b7 r_b8
      clear HP_1 HQ_1 Ha_1 Hb_1
      have lt_a := Ha_2.out.lt
      obtain ⟨r_a0, r_a1, r_a2, r_a3, r_a4, r_a5, r_a6⟩ := bc7 Ha_2.out
      have lt_b := Hb_2.out.lt
      obtain ⟨r_b0, r_b1, r_b2, r_b3, r_b4, r_b5, r_b6, r_b7, r_b8⟩ := bc9 Hb_2.out
      have hv : nextB i0 t0 ex et ec es ek ea eb eg eh = false := by unfold nextB; rw [Hr1.out]; simp
      have HV := Lib.hid hv
      clear hv
      go_wp21
      go_ret
      exact ⟨ret_bool (HX.out.trans HV.out).symm, f2⟩
    | true =>
      rw [r1] at cc
      have Hr1 := Lib.hid r1
      clear r1
      go_wp2_with fail
      refine (cc).mono ?_
      rintro e v2 ⟨rfl, b2⟩
      have f2 := bthen f1 b2
      have z2 := b2.size
      have HP_2 := Lib.hid (HP_1.out.below b2)
      have HQ_2 := Lib.hid (HQ_1.out.below b2)
      have Ha_2 := Lib.hid (Ha_1.out.below b2)
      have Hb_2 := Lib.hid (Hb_1.out.below b2)
      clear lt_a r_a0 r_a1 r_a2 r_a3 r_a4 r_a5 r_a6 lt_b r_b0 r_b1 r_b2 r_b3 r_b4 r_b5 r_b6 r_b7 r_b8
      clear HP_1 HQ_1 Ha_1 Hb_1
      have lt_a := Ha_2.out.lt
      obtain ⟨r_a0, r_a1, r_a2, r_a3, r_a4, r_a5, r_a6⟩ := bc7 Ha_2.out
      have lt_b := Hb_2.out.lt
      obtain ⟨r_b0, r_b1, r_b2, r_b3, r_b4, r_b5, r_b6, r_b7, r_b8⟩ := bc9 Hb_2.out
      clear cc
      cases r2 : (ex == i0 + 1) with
      | false =>
        have Hr2 := Lib.hid r2
        have hv : nextB i0 t0 ex et ec es ek ea eb eg eh = false := by unfold nextB; rw [Hr1.out, Hr2.out]; simp
        have HV := Lib.hid hv
        clear hv
        go_wp21
        go_ret
        exact ⟨ret_bool (HX.out.trans HV.out).symm, f2⟩
      | true =>
        have Hr2 : Hid ((ex == i0 + 1) = true) := r2
        cases r3 : (decide (t0 ≤ et)) with
        | false =>
          have Hr3 := Lib.hid r3
          have hle : et < t0 := by have := of_decide_eq_false r3; omega
          have hv : nextB i0 t0 ex et ec es ek ea eb eg eh = false := by unfold nextB; rw [Hr1.out, Hr2.out, Hr3.out]; simp
          have HV := Lib.hid hv
          clear hv
          go_wp21
          go_ret
          exact ⟨ret_bool (HX.out.trans HV.out).symm, f2⟩
        | true =>
          have Hr3 : Hid ((decide (t0 ≤ et)) = true) := r3
          have hle : t0 ≤ et := of_decide_eq_true r3
          have hv : nextB i0 t0 ex et ec es ek ea eb eg eh = true := by unfold nextB; rw [Hr1.out, Hr2.out, Hr3.out]; rfl
          have HV := Lib.hid hv
          clear hv
          go_wp21
          go_ret
          exact ⟨ret_bool (HX.out.trans HV.out).symm, f2⟩
end Go.Proofs.YtokklkmibjpjnaaGreat
namespace Go.Proofs.YtokklkmibjpjnaaGreat
set_option linter.unusedSimpArgs false
set_option linter.unusedVariables false
attribute [local go_sem] n_lt2 n_lt3 n_lt4 n_le2 n_le3
open Go.RowKit
attribute [local go_sem] Ext.cell Ext.frozen
set_option maxHeartbeats 1000000 in
theorem jobAtV_any (A : Option Addr) (n cap : Nat) (l : List Jb) (key : Int) (w : World) (hS : Sl w 5 A n (JB l)) (hl : l.length = n) (hn : n ≤ maxLen) :
    Calls Tryz.prog 105 #[.slice A n cap, .int .i64 key] w fun e' w' => e' = .returned (.tuple #[.agg #[.int .i64 (jobAtV l key).1.i, .int .i64 (jobAtV l key).1.d, .int .i64 (jobAtV l key).1.k, .int .i64 (jobAtV l key).1.v, .int .i64 (jobAtV l key).1.f], .bool (jobAtV l key).2]) ∧ Below w.heap.size w w' := by
  by_cases hk : jobIx l key < l.length
  · have hv : jobAtV l key = (l.getD (jobIx l key) default, true) := by unfold jobAtV; rw [if_pos hk]
    have ha : placeJ l key = (jobIx l key : Int) := by unfold placeJ; rw [if_pos hk]
    rw [hv]
    generalize jobIx l key = k at hk ha
    rw [hl] at hk
    obtain ⟨b, off, rfl, hb, hcell⟩ := sl_jobs hS (by omega)
    obtain ⟨h0, h1, h2, h3, h4⟩ := hcell k hk
    clear hcell hv
    generalize l.getD k default = pk at h0 h1 h2 h3 h4
    obtain ⟨x0, x1, x2, x3, x4⟩ := pk
    simp only at h0 h1 h2 h3 h4
    have hn' := hn
    unfold maxLen at hn'
    go_enter Tryz.func105, Tryz.ntmps105
    go_wp2_with fail
    refine calls_named ?_
    rintro w0 hw0
    have K0 : Blk w0 w.heap.size 71 #[.int .i64 0, .int .i64 0, .int .i64 0, .int .i64 0, .int .i64 0] := by rw [hw0]; exact Blk.new _ _ _
    have b0 : Below w.heap.size w w0 := by rw [hw0]; (repeat' (first | (with_reducible exact Below.refl _ _) | (with_reducible assumption) | (with_reducible refine Below.alloc ?_ ?_ _) | (with_reducible refine Below.drew ?_) | (with_reducible refine Below.setCell ?_ ?_ _) | (with_reducible refine bstep (by assumption) ?_ ?_) | (with_reducible exact Nat.le_refl _) | omega | (simp [*]; done) | (simp [*]; omega)))
    clear hw0
    have c1 := placeJob_any (some ⟨b, off, none⟩) n cap l key w0 (hS.below b0) hl hn
    rw [ha] at c1
    refine c1.mono ?_
    rintro e w1 ⟨rfl, b1⟩
    have K1 := K0.below b1
    have f1 := bthen b0 b1
    rw [← f1.cell (by exact hb)] at h0 h1 h2 h3 h4
    have hbr : b < w1.heap.size := Nat.lt_of_lt_of_le hb f1.size
    have hk0 : (k : Int) < (n : Int) := by omega
    clear c1 ha K0 hS
    have lt1 := K1.lt
    obtain ⟨q0, q1, q2, q3, q4⟩ := bc5 K1
    have qf : ∀ o, w1.frozen? ⟨w.heap.size, o, none⟩ = false := fun o => K1.frozen o
    clear K1
    go_wp2
    refine bodyPost_ret (v := .tuple #[.agg #[.int .i64 x0, .int .i64 x1, .int .i64 x2, .int .i64 x3, .int .i64 x4], .bool true]) (by simp [results, Tryz.results105, go_sem, *]) rfl ⟨rfl, by (repeat' (first | (with_reducible exact Below.refl _ _) | (with_reducible assumption) | (with_reducible refine Below.alloc ?_ ?_ _) | (with_reducible refine Below.drew ?_) | (with_reducible refine Below.setCell ?_ ?_ _) | (with_reducible refine bstep (by assumption) ?_ ?_) | (with_reducible exact Nat.le_refl _) | omega | (simp [*]; done) | (simp [*]; omega)))⟩
  · have hv : jobAtV l key = (default, false) := by unfold jobAtV; rw [if_neg hk]
    have ha : placeJ l key = -1 := by unfold placeJ; rw [if_neg hk]
    rw [hv]
    go_enter Tryz.func105, Tryz.ntmps105
    go_wp2_with fail
    refine calls_named ?_
    rintro w0 hw0
    have K0 : Blk w0 w.heap.size 71 #[.int .i64 0, .int .i64 0, .int .i64 0, .int .i64 0, .int .i64 0] := by rw [hw0]; exact Blk.new _ _ _
    have b0 : Below w.heap.size w w0 := by rw [hw0]; (repeat' (first | (with_reducible exact Below.refl _ _) | (with_reducible assumption) | (with_reducible refine Below.alloc ?_ ?_ _) | (with_reducible refine Below.drew ?_) | (with_reducible refine Below.setCell ?_ ?_ _) | (with_reducible refine bstep (by assumption) ?_ ?_) | (with_reducible exact Nat.le_refl _) | omega | (simp [*]; done) | (simp [*]; omega)))
    clear hw0
    have c1 := placeJob_any A n cap l key w0 (hS.below b0) hl hn
    rw [ha] at c1
    refine c1.mono ?_
    rintro e w1 ⟨rfl, b1⟩
    have K1 := K0.below b1
    have f1 := bthen b0 b1
    have lt1 := K1.lt
    obtain ⟨q0, q1, q2, q3, q4⟩ := bc5 K1
    have qf : ∀ o, w1.frozen? ⟨w.heap.size, o, none⟩ = false := fun o => K1.frozen o
    clear K1
    go_wp2
    refine bodyPost_ret (v := .tuple #[.agg #[.int .i64 0, .int .i64 0, .int .i64 0, .int .i64 0, .int .i64 0], .bool false]) (by simp [results, Tryz.results105, go_sem, *]) rfl ⟨rfl, by (repeat' (first | (with_reducible exact Below.refl _ _) | (with_reducible assumption) | (with_reducible refine Below.alloc ?_ ?_ _) | (with_reducible refine Below.drew ?_) | (with_reducible refine Below.setCell ?_ ?_ _) | (with_reducible refine bstep (by assumption) ?_ ?_) | (with_reducible exact Nat.le_refl _) | omega | (simp [*]; done) | (simp [*]; omega)))⟩
set_option maxHeartbeats 1000000 in
theorem specJobAt_any (A : Option Addr) (n cap : Nat) (l : List Jb) (key : Int) (w : World) (hS : Sl w 5 A n (JB l)) (hl : l.length = n) (hn : n ≤ maxLen) :
    Calls Tryz.prog 33 #[.slice A n cap, .int .i64 key] w fun e' w' => e' = .returned (.tuple #[.agg #[.int .i64 (jobAtR l key).1.i, .int .i64 (jobAtR l key).1.d, .int .i64 (jobAtR l key).1.k, .int .i64 (jobAtR l key).1.v, .int .i64 (jobAtR l key).1.f], .bool (jobAtR l key).2]) ∧ Below w.heap.size w w' := by
  by_cases hk : jobsB l = true
  · have hv : jobAtR l key = jobAtV l key := by unfold jobAtR; rw [if_pos hk]
    rw [hv]
    clear hv
    go_enter Tryz.func33, Tryz.ntmps33
    go_wp2_with fail
    refine calls_named ?_
    rintro w0 hw0
    have K0 : Blk w0 w.heap.size 71 #[.int .i64 0, .int .i64 0, .int .i64 0, .int .i64 0, .int .i64 0] := by rw [hw0]; exact Blk.new _ _ _
    have b0 : Below w.heap.size w w0 := by rw [hw0]; (repeat' (first | (with_reducible exact Below.refl _ _) | (with_reducible assumption) | (with_reducible refine Below.alloc ?_ ?_ _) | (with_reducible refine Below.drew ?_) | (with_reducible refine Below.setCell ?_ ?_ _) | (with_reducible refine bstep (by assumption) ?_ ?_) | (with_reducible exact Nat.le_refl _) | omega | (simp [*]; done) | (simp [*]; omega)))
    clear hw0
    have c1 := specJobsOk_any A n cap l w0 (hS.below b0) hl hn
    rw [hk] at c1
    refine c1.mono ?_
    rintro e w1 ⟨rfl, b1⟩
    have K1 := Lib.hid (K0.below b1)
    have f1 := bthen b0 b1
    unfold maxLen at hn
    have hL := Lib.hid hl
    have HS := Lib.hid hS
    clear c1 hk hl hS K0
    have hlo1 : w.heap.size < w1.heap.size := K1.out.lt
    go_wp2
    go_loopw [6] (fun i wr => ∃ k : Nat, k ≤ n ∧ i = .int .i64 k ∧ Below w.heap.size w wr ∧ Hid (wr = w1) ∧ Hid (∀ j, j < k → (l.getD j default).i ≠ key)) (fun i _ => n - (intOf i).toNat)
    case atStart => exact ⟨0, Nat.zero_le _, rfl, f1, by first | exact Lib.hid rfl | exact Lib.hid trivial, fun j hj => absurd hj (by omega)⟩
    case round =>
      obtain ⟨k, hk, rfl, hbl, hww, hall⟩ := hrel
      have hw1 := hww.out
      subst hw1
      by_cases hlt : k < n
      · obtain ⟨b, off, rfl, hb, hcell⟩ := sl_jobs HS.out (by omega)
        obtain ⟨h0, h1, h2, h3, h4⟩ := hcell k hlt
        clear hcell
        rw [← hbl.cell (by exact hb)] at h0 h1 h2 h3 h4
        generalize hpk : l.getD k default = pk at h0 h1 h2 h3 h4
        obtain ⟨x0, x1, x2, x3, x4⟩ := pk
        simp only at h0 h1 h2 h3 h4
        have H := Lib.hid hpk
        clear hpk
        have hbr : b < wr.heap.size := Nat.lt_of_lt_of_le hb hbl.size
        by_cases hx : x0 = key
        · subst hx
          have hva : jobAtV l x0 = (⟨x0, x1, x2, x3, x4⟩, true) := by rw [jobAtV_some (hL.out.symm ▸ hlt) hall.out (by rw [H.out]), H.out]
          have HV := Lib.hid hva
          clear hva
          have K1 := K1.out
          have lt1 := K1.lt
          obtain ⟨q0, q1, q2, q3, q4⟩ := bc5 K1
          have qf : ∀ o, wr.frozen? ⟨w.heap.size, o, none⟩ = false := fun o => K1.frozen o
          clear K1
          go_wp2
          refine bodyPost_ret (v := .tuple #[.agg #[.int .i64 x0, .int .i64 x1, .int .i64 x2, .int .i64 x3, .int .i64 x4], .bool true]) (by simp [results, Tryz.results33, go_sem, *]) rfl ⟨by rw [HV.out], by (repeat' (first | (with_reducible exact Below.refl _ _) | (with_reducible assumption) | (with_reducible refine Below.alloc ?_ ?_ _) | (with_reducible refine Below.drew ?_) | (with_reducible refine Below.setCell ?_ ?_ _) | (with_reducible refine bstep (by assumption) ?_ ?_) | (with_reducible exact Nat.le_refl _) | omega | (simp [*]; done) | (simp [*]; omega)))⟩
        · have hx' : (x0 == key) = false := by simpa using hx
          go_wp2
          exact ⟨⟨k + 1, by omega, by go_num, hbl, by first | exact Lib.hid rfl | exact Lib.hid trivial, below_uptoJ hall.out (by rw [H.out]; exact hx)⟩, by simp [intOf]; omega⟩
      · have hkn : k = n := by omega
        subst hkn
        have HV := Lib.hid (show jobAtV l key = (default, false) from jobAtV_none (hL.out.symm ▸ hall.out))
        have K1 := K1.out
        have lt1 := K1.lt
        obtain ⟨q0, q1, q2, q3, q4⟩ := bc5 K1
        have qf : ∀ o, wr.frozen? ⟨w.heap.size, o, none⟩ = false := fun o => K1.frozen o
        clear K1
        go_wp2
        refine bodyPost_ret (v := .tuple #[.agg #[.int .i64 0, .int .i64 0, .int .i64 0, .int .i64 0, .int .i64 0], .bool false]) (by simp [results, Tryz.results33, go_sem, *]) rfl ⟨by rw [HV.out]; rfl, by (repeat' (first | (with_reducible exact Below.refl _ _) | (with_reducible assumption) | (with_reducible refine Below.alloc ?_ ?_ _) | (with_reducible refine Below.drew ?_) | (with_reducible refine Below.setCell ?_ ?_ _) | (with_reducible refine bstep (by assumption) ?_ ?_) | (with_reducible exact Nat.le_refl _) | omega | (simp [*]; done) | (simp [*]; omega)))⟩
  · have hk' : jobsB l = false := by simpa using hk
    have hv : jobAtR l key = (default, false) := by unfold jobAtR; rw [if_neg hk]
    rw [hv]
    go_enter Tryz.func33, Tryz.ntmps33
    go_wp2_with fail
    refine calls_named ?_
    rintro w0 hw0
    have K0 : Blk w0 w.heap.size 71 #[.int .i64 0, .int .i64 0, .int .i64 0, .int .i64 0, .int .i64 0] := by rw [hw0]; exact Blk.new _ _ _
    have b0 : Below w.heap.size w w0 := by rw [hw0]; (repeat' (first | (with_reducible exact Below.refl _ _) | (with_reducible assumption) | (with_reducible refine Below.alloc ?_ ?_ _) | (with_reducible refine Below.drew ?_) | (with_reducible refine Below.setCell ?_ ?_ _) | (with_reducible refine bstep (by assumption) ?_ ?_) | (with_reducible exact Nat.le_refl _) | omega | (simp [*]; done) | (simp [*]; omega)))
    clear hw0
    have c1 := specJobsOk_any A n cap l w0 (hS.below b0) hl hn
    rw [hk'] at c1
    refine c1.mono ?_
    rintro e w1 ⟨rfl, b1⟩
    have K1 := K0.below b1
    have f1 := bthen b0 b1
    clear c1 hk hk' hv
    have lt1 := K1.lt
    obtain ⟨q0, q1, q2, q3, q4⟩ := bc5 K1
    have qf : ∀ o, w1.frozen? ⟨w.heap.size, o, none⟩ = false := fun o => K1.frozen o
    clear K1
    go_wp2
    refine bodyPost_ret (v := .tuple #[.agg #[.int .i64 0, .int .i64 0, .int .i64 0, .int .i64 0, .int .i64 0], .bool false]) (by simp [results, Tryz.results33, go_sem, *]) rfl ⟨rfl, by (repeat' (first | (with_reducible exact Below.refl _ _) | (with_reducible assumption) | (with_reducible refine Below.alloc ?_ ?_ _) | (with_reducible refine Below.drew ?_) | (with_reducible refine Below.setCell ?_ ?_ _) | (with_reducible refine bstep (by assumption) ?_ ?_) | (with_reducible exact Nat.le_refl _) | omega | (simp [*]; done) | (simp [*]; omega)))⟩
end Go.Proofs.YtokklkmibjpjnaaGreat
namespace Go.Proofs.YtokklkmibjpjnaaGreat
set_option linter.unusedSimpArgs false
set_option linter.unusedVariables false
attribute [local go_sem] n_lt2 n_lt3 n_lt4 n_le2 n_le3
open Go.RowKit
def firesB (l0 l1 l2 : Int) (ql : List Jb) (et ec ek ea eb : Int) : Bool := (ek == 4) && ((jobAtV ql ea).2 && (((jobAtV ql ea).1.f == 0) && (decide ((jobAtV ql ea).1.d ≤ et) && holdsB l0 l1 l2 ec eb et)))
def firesInB (i0 t0 l0 l1 l2 : Int) (pl : List Pr) (ql : List Jb) (ex et ec es ek ea eb eg eh : Int) : Bool := nextInB i0 t0 l0 l1 l2 pl ql ex et ec es ek ea eb eg eh && firesB l0 l1 l2 ql et ec ek ea eb
theorem firesB_at {l0 l1 l2 : Int} {ql : List Jb} {et ec ek ea eb : Int} {ji jd jk jv jf : Int} {ok : Bool} (hk : (ek == 4) = true) (hj : jobAtV ql ea = (⟨ji, jd, jk, jv, jf⟩, ok)) :
    firesB l0 l1 l2 ql et ec ek ea eb = (ok && ((jf == 0) && (decide (jd ≤ et) && holdsB l0 l1 l2 ec eb et))) := by
  unfold firesB; rw [hj, hk]; rfl
theorem nextInB_jobs {i0 t0 l0 l1 l2 : Int} {pl : List Pr} {ql : List Jb} {ex et ec es ek ea eb eg eh : Int} (h : nextInB i0 t0 l0 l1 l2 pl ql ex et ec es ek ea eb eg eh = true) : jobsB ql = true := by
  unfold nextInB stateB at h
  simp only [Bool.and_eq_true] at h
  exact h.1.2.2.2.1
attribute [local go_sem] Ext.cell Ext.frozen
theorem jopen_any (a b c d e : Int) (w : World) :
    Calls Tryz.prog 119 #[.agg #[.int .i64 a, .int .i64 b, .int .i64 c, .int .i64 d, .int .i64 e]] w fun e' w' => e' = .returned (.bool (e == 0)) ∧ Below w.heap.size w w' := by
  go_enter Tryz.func119, Tryz.ntmps119
  go_wp2
  go_ret
  exact ⟨rfl, by (repeat' (first | (with_reducible exact Below.refl _ _) | (with_reducible assumption) | (with_reducible refine Below.alloc ?_ ?_ _) | (with_reducible refine Below.drew ?_) | (with_reducible refine Below.setCell ?_ ?_ _) | (with_reducible refine bstep (by assumption) ?_ ?_) | (with_reducible exact Nat.le_refl _) | omega | (simp [*]; done) | (simp [*]; omega)))⟩
set_option maxRecDepth 100000 in
set_option maxHeartbeats 2000000 in
theorem fires_any (A : Option Addr) (n c : Nat) (B : Option Addr) (m d : Nat) (i0 t0 l0 l1 l2 : Int) (ql : List Jb) (ex et ec es ek ea eb eg eh : Int) (w : World) (hQ : Sl w 5 B m (JB ql)) (hr : ql.length = m) (hm : m ≤ maxLen) :
    Calls Tryz.prog 104 #[.agg #[.int .i64 i0, .int .i64 t0, .slice A n c, .slice B m d, .int .i64 l0, .int .i64 l1, .int .i64 l2], .agg #[.int .i64 ex, .int .i64 et, .int .i64 ec, .int .i64 es, .int .i64 ek, .int .i64 ea, .int .i64 eb, .int .i64 eg, .int .i64 eh]] w fun e' w' => e' = .returned (.bool (firesB l0 l1 l2 ql et ec ek ea eb)) ∧ Below w.heap.size w w' := by
  have hR := Lib.hid hr
  have HQ := Lib.hid hQ
  clear hQ hr
  cases q1 : (ek == 4) with
  | false =>
    have HV := Lib.hid (show firesB l0 l1 l2 ql et ec ek ea eb = false by unfold firesB; rw [q1]; rfl)
    have n1 : (ek != 4) = true := by rw [bne, q1]; rfl
    go_enter Tryz.func104, Tryz.ntmps104
    go_wp21
    go_ret
    exact ⟨ret_bool HV.out.symm, by (repeat' (first | (with_reducible exact Below.refl _ _) | (with_reducible assumption) | (with_reducible refine Below.alloc ?_ ?_ _) | (with_reducible refine Below.drew ?_) | (with_reducible refine Below.setCell ?_ ?_ _) | (with_reducible refine bstep (by assumption) ?_ ?_) | (with_reducible exact Nat.le_refl _) | omega | (simp [*]; done) | (simp [*]; omega)))⟩
  | true =>
    have n1 : (ek != 4) = false := by rw [bne, q1]; rfl
    have HK := Lib.hid q1
    go_enter Tryz.func104, Tryz.ntmps104
    go_wp2_with fail
    refine calls_named ?_
    rintro v0 hv0
    have f0 : Below w.heap.size w v0 := by rw [hv0]; (repeat' (first | (with_reducible exact Below.refl _ _) | (with_reducible assumption) | (with_reducible refine Below.alloc ?_ ?_ _) | (with_reducible refine Below.drew ?_) | (with_reducible refine Below.setCell ?_ ?_ _) | (with_reducible refine bstep (by assumption) ?_ ?_) | (with_reducible exact Nat.le_refl _) | omega | (simp [*]; done) | (simp [*]; omega)))
    have z0 : w.heap.size + 2 ≤ v0.heap.size := by rw [hv0]; simp [size_set]
    have HQ_0 := Lib.hid (HQ.out.below f0)
    have HQ_lt := Lib.hid (fun hn => HQ.out.lt hn)
    have Ha_0 : Hid (Blk v0 w.heap.size 37 #[.int .i64 i0, .int .i64 t0, .slice A n c, .slice B m d, .int .i64 l0, .int .i64 l1, .int .i64 l2]) := by rw [hv0]; exact (Blk.new_at _ _ _ _ (by simp)).alloc _
    have Hb_0 : Hid (Blk v0 (w.heap.size + 1) 43 #[.int .i64 ex, .int .i64 et, .int .i64 ec, .int .i64 es, .int .i64 ek, .int .i64 ea, .int .i64 eb, .int .i64 eg, .int .i64 eh]) := by rw [hv0]; exact Blk.new_at _ _ _ _ (by simp)
    clear hv0
    generalize hg1 : w.heap.size + 1 = g1 at *
    have lg1 : w.heap.size < g1 := by omega
    have lgz : g1 < v0.heap.size := by omega
    have nq1x0 : ¬ g1 = w.heap.size := by omega
    have nq0x1 : ¬ w.heap.size = g1 := by omega
    clear hg1
    have lt_a := Ha_0.out.lt
    obtain ⟨r_a0, r_a1, r_a2, r_a3, r_a4, r_a5, r_a6⟩ := bc7 Ha_0.out
    have lt_b := Hb_0.out.lt
    obtain ⟨r_b0, r_b1, r_b2, r_b3, r_b4, r_b5, r_b6, r_b7, r_b8⟩ := bc9 Hb_0.out
    have cc := jobAtV_any B m d ql ea v0 HQ_0.out hR.out hm
    obtain ⟨J, hj⟩ : ∃ J, J = jobAtV ql ea := ⟨_, rfl⟩
    rw [← hj] at cc
    obtain ⟨⟨ji, jd, jk, jv, jf⟩, ok⟩ := J
    have HE := Lib.hid (firesB_at (l0 := l0) (l1 := l1) (l2 := l2) (et := et) (ec := ec) (eb := eb) HK.out hj.symm)
    clear hj
    dsimp only at cc
    cases ok with
    | false =>
      refine (cc).mono ?_
      rintro e v1 ⟨rfl, b1⟩
      have f1 := bthen f0 b1
      have z1 := b1.size
      have HQ_1 := Lib.hid (HQ_0.out.below b1)
      have Ha_1 := Lib.hid (Ha_0.out.below b1)
      have Hb_1 := Lib.hid (Hb_0.out.below b1)
      clear lt_a r_a0 r_a1 r_a2 r_a3 r_a4 r_a5 r_a6 lt_b r_b0 r_b1 r_b2 r_b3 r_b4 r_b5 r_b6 r_b7 r_b8
      clear HQ_0 Ha_0 Hb_0
      have lt_a := Ha_1.out.lt
      obtain ⟨r_a0, r_a1, r_a2, r_a3, r_a4, r_a5, r_a6⟩ := bc7 Ha_1.out
      have lt_b := Hb_1.out.lt
      obtain ⟨r_b0, r_b1, r_b2, r_b3, r_b4, r_b5, r_b6, r_b7, r_b8⟩ := bc9 Hb_1.out
      have HV := Lib.hid (show firesB l0 l1 l2 ql et ec ek ea eb = false from HE.out.trans (by simp))
      go_wp21
      go_ret
      exact ⟨ret_bool HV.out.symm, f1.alloc f1.size _⟩
    | true =>
      refine (cc).mono ?_
      rintro e v1 ⟨rfl, b1⟩
      have f1 := bthen f0 b1
      have z1 := b1.size
      have HQ_1 := Lib.hid (HQ_0.out.below b1)
      have Ha_1 := Lib.hid (Ha_0.out.below b1)
      have Hb_1 := Lib.hid (Hb_0.out.below b1)
      clear lt_a r_a0 r_a1 r_a2 r_a3 r_a4 r_a5 r_a6 lt_b r_b0 r_b1 r_b2 r_b3 r_b4 r_b5 r_b6 r_b7 r_b8
      clear HQ_0 Ha_0 Hb_0
      clear cc
      have lt_a := Ha_1.out.lt
      obtain ⟨r_a0, r_a1, r_a2, r_a3, r_a4, r_a5, r_a6⟩ := bc7 Ha_1.out
      have lt_b := Hb_1.out.lt
      obtain ⟨r_b0, r_b1, r_b2, r_b3, r_b4, r_b5, r_b6, r_b7, r_b8⟩ := bc9 Hb_1.out
      cases s1 : (jf == 0) with
      | false =>
        have HE2 := Lib.hid (HE.out.trans (show _ = false by rw [s1]; simp))
        go_wp2_with fail
        refine calls_named ?_
        rintro v2 hv2
        have f2 : Below w.heap.size w v2 := by rw [hv2]; (repeat' (first | (with_reducible exact Below.refl _ _) | (with_reducible assumption) | (with_reducible refine Below.alloc ?_ ?_ _) | (with_reducible refine Below.drew ?_) | (with_reducible refine Below.setCell ?_ ?_ _) | (with_reducible refine bstep (by assumption) ?_ ?_) | (with_reducible exact Nat.le_refl _) | omega | (simp [*]; done) | (simp [*]; omega)))
        have z2 : v1.heap.size + 1 ≤ v2.heap.size := by rw [hv2]; simp [size_set]
        have HQ_2 : Hid (Sl v2 5 B m (JB ql)) := by rw [hv2]; exact (HQ_1.out).alloc _
        have Ha_2 : Hid (Blk v2 w.heap.size 37 #[.int .i64 i0, .int .i64 t0, .slice A n c, .slice B m d, .int .i64 l0, .int .i64 l1, .int .i64 l2]) := by rw [hv2]; exact (Ha_1.out).alloc _
        have Hb_2 : Hid (Blk v2 g1 43 #[.int .i64 ex, .int .i64 et, .int .i64 ec, .int .i64 es, .int .i64 ek, .int .i64 ea, .int .i64 eb, .int .i64 eg, .int .i64 eh]) := by rw [hv2]; exact (Hb_1.out).alloc _
        have Hj_2 : Hid (Blk v2 v1.heap.size 71 #[.int .i64 ji, .int .i64 jd, .int .i64 jk, .int .i64 jv, .int .i64 jf]) := by rw [hv2]; exact (Blk.new_at _ _ _ _ (by simp [size_set]))
        clear lt_a r_a0 r_a1 r_a2 r_a3 r_a4 r_a5 r_a6 lt_b r_b0 r_b1 r_b2 r_b3 r_b4 r_b5 r_b6 r_b7 r_b8
        clear hv2 HQ_1 Ha_1 Hb_1
        have lt_a := Ha_2.out.lt
        obtain ⟨r_a0, r_a1, r_a2, r_a3, r_a4, r_a5, r_a6⟩ := bc7 Ha_2.out
        have lt_b := Hb_2.out.lt
        obtain ⟨r_b0, r_b1, r_b2, r_b3, r_b4, r_b5, r_b6, r_b7, r_b8⟩ := bc9 Hb_2.out
        have lt_j := Hj_2.out.lt
        obtain ⟨r_j0, r_j1, r_j2, r_j3, r_j4⟩ := bc5 Hj_2.out
        have co := jopen_any ji jd jk jv jf v2
        rw [s1] at co
        clear s1
        refine (co).mono ?_
        rintro e v3 ⟨rfl, b3⟩
        have f3 := bthen f2 b3
        have z3 := b3.size
        have HQ_3 := Lib.hid (HQ_2.out.below b3)
        have Ha_3 := Lib.hid (Ha_2.out.below b3)
        have Hb_3 := Lib.hid (Hb_2.out.below b3)
        have Hj_3 := Lib.hid (Hj_2.out.below b3)
        clear lt_a r_a0 r_a1 r_a2 r_a3 r_a4 r_a5 r_a6 lt_b r_b0 r_b1 r_b2 r_b3 r_b4 r_b5 r_b6 r_b7 r_b8 lt_j r_j0 r_j1 r_j2 r_j3 r_j4
        clear HQ_2 Ha_2 Hb_2 Hj_2
        have lt_a := Ha_3.out.lt
        obtain ⟨r_a0, r_a1, r_a2, r_a3, r_a4, r_a5, r_a6⟩ := bc7 Ha_3.out
        have lt_b := Hb_3.out.lt
        obtain ⟨r_b0, r_b1, r_b2, r_b3, r_b4, r_b5, r_b6, r_b7, r_b8⟩ := bc9 Hb_3.out
        have lt_j := Hj_3.out.lt
        obtain ⟨r_j0, r_j1, r_j2, r_j3, r_j4⟩ := bc5 Hj_3.out
        have HV := Lib.hid (show firesB l0 l1 l2 ql et ec ek ea eb = false from HE2.out)
        go_wp21
        go_ret
        exact ⟨ret_bool HV.out.symm, f3⟩
      | true =>
        go_wp2_with fail
        refine calls_named ?_
        rintro v2 hv2
        have f2 : Below w.heap.size w v2 := by rw [hv2]; (repeat' (first | (with_reducible exact Below.refl _ _) | (with_reducible assumption) | (with_reducible refine Below.alloc ?_ ?_ _) | (with_reducible refine Below.drew ?_) | (with_reducible refine Below.setCell ?_ ?_ _) | (with_reducible refine bstep (by assumption) ?_ ?_) | (with_reducible exact Nat.le_refl _) | omega | (simp [*]; done) | (simp [*]; omega)))
        have z2 : v1.heap.size + 1 ≤ v2.heap.size := by rw [hv2]; simp [size_set]
        have HQ_2 : Hid (Sl v2 5 B m (JB ql)) := by rw [hv2]; exact (HQ_1.out).alloc _
        have Ha_2 : Hid (Blk v2 w.heap.size 37 #[.int .i64 i0, .int .i64 t0, .slice A n c, .slice B m d, .int .i64 l0, .int .i64 l1, .int .i64 l2]) := by rw [hv2]; exact (Ha_1.out).alloc _
        have Hb_2 : Hid (Blk v2 g1 43 #[.int .i64 ex, .int .i64 et, .int .i64 ec, .int .i64 es, .int .i64 ek, .int .i64 ea, .int .i64 eb, .int .i64 eg, .int .i64 eh]) := by rw [hv2]; exact (Hb_1.out).alloc _
        have Hj_2 : Hid (Blk v2 v1.heap.size 71 #[.int .i64 ji, .int .i64 jd, .int .i64 jk, .int .i64 jv, .int .i64 jf]) := by rw [hv2]; exact (Blk.new_at _ _ _ _ (by simp [size_set]))
        clear lt_a r_a0 r_a1 r_a2 r_a3 r_a4 r_a5 r_a6 lt_b r_b0 r_b1 r_b2 r_b3 r_b4 r_b5 r_b6 r_b7 r_b8
        clear hv2 HQ_1 Ha_1 Hb_1
        have lt_a := Ha_2.out.lt
        obtain ⟨r_a0, r_a1, r_a2, r_a3, r_a4, r_a5, r_a6⟩ := bc7 Ha_2.out
        have lt_b := Hb_2.out.lt
        obtain ⟨r_b0, r_b1, r_b2, r_b3, r_b4, r_b5, r_b6, r_b7, r_b8⟩ := bc9 Hb_2.out
        have lt_j := Hj_2.out.lt
        obtain ⟨r_j0, r_j1, r_j2, r_j3, r_j4⟩ := bc5 Hj_2.out
        have co := jopen_any ji jd jk jv jf v2
        rw [s1] at co
        have S1 := Lib.hid s1
        clear s1
        refine (co).mono ?_
        rintro e v3 ⟨rfl, b3⟩
        have f3 := bthen f2 b3
        have z3 := b3.size
        have HQ_3 := Lib.hid (HQ_2.out.below b3)
        have Ha_3 := Lib.hid (Ha_2.out.below b3)
        have Hb_3 := Lib.hid (Hb_2.out.below b3)
        have Hj_3 := Lib.hid (Hj_2.out.below b3)
        clear lt_a r_a0 r_a1 r_a2 r_a3 r_a4 r_a5 r_a6 lt_b r_b0 r_b1 r_b2 r_b3 r_b4 r_b5 r_b6 r_b7 r_b8 lt_j r_j0 r_j1 r_j2 r_j3 r_j4
        clear HQ_2 Ha_2 Hb_2 Hj_2
        clear co
        have lt_a := Ha_3.out.lt
        obtain ⟨r_a0, r_a1, r_a2, r_a3, r_a4, r_a5, r_a6⟩ := bc7 Ha_3.out
        have lt_b := Hb_3.out.lt
        obtain ⟨r_b0, r_b1, r_b2, r_b3, r_b4, r_b5, r_b6, r_b7, r_b8⟩ := bc9 Hb_3.out
        have lt_j := Hj_3.out.lt
        obtain ⟨r_j0, r_j1, r_j2, r_j3, r_j4⟩ := bc5 Hj_3.out
        by_cases s2 : jd ≤ et
        rotate_left
        · have s3 : et < jd := by omega
          have HE2 := Lib.hid (HE.out.trans (show _ = false by rw [decide_eq_false s2]; simp))
          have HV := Lib.hid (show firesB l0 l1 l2 ql et ec ek ea eb = false from HE2.out)
          go_wp21
          go_ret
          exact ⟨ret_bool HV.out.symm, f3⟩
        have HE2 := Lib.hid (HE.out.trans (show _ = holdsB l0 l1 l2 ec eb et by rw [S1.out, decide_eq_true s2]; rfl))
        have ch := HoldsAt_any l0 l1 l2 ec eb et v3
        generalize holdsB l0 l1 l2 ec eb et = q at ch HE2
        go_wp2_with fail
        refine (ch).mono ?_
        rintro e v4 ⟨rfl, b4⟩
        have f4 := bthen f3 b4
        have z4 := b4.size
        have HQ_4 := Lib.hid (HQ_3.out.below b4)
        have Ha_4 := Lib.hid (Ha_3.out.below b4)
        have Hb_4 := Lib.hid (Hb_3.out.below b4)
        have Hj_4 := Lib.hid (Hj_3.out.below b4)
        clear lt_a r_a0 r_a1 r_a2 r_a3 r_a4 r_a5 r_a6 lt_b r_b0 r_b1 r_b2 r_b3 r_b4 r_b5 r_b6 r_b7 r_b8 lt_j r_j0 r_j1 r_j2 r_j3 r_j4
        clear HQ_3 Ha_3 Hb_3 Hj_3
        clear ch
        have lt_a := Ha_4.out.lt
        obtain ⟨r_a0, r_a1, r_a2, r_a3, r_a4, r_a5, r_a6⟩ := bc7 Ha_4.out
        have lt_b := Hb_4.out.lt
        obtain ⟨r_b0, r_b1, r_b2, r_b3, r_b4, r_b5, r_b6, r_b7, r_b8⟩ := bc9 Hb_4.out
        have lt_j := Hj_4.out.lt
        obtain ⟨r_j0, r_j1, r_j2, r_j3, r_j4⟩ := bc5 Hj_4.out
        go_wp21
        go_ret
        exact ⟨ret_bool HE2.out.symm, f4⟩
set_option maxRecDepth 100000 in
set_option maxHeartbeats 2000000 in
theorem specFiresIn_any (A : Option Addr) (n c : Nat) (B : Option Addr) (m d : Nat) (i0 t0 l0 l1 l2 : Int) (pl : List Pr) (ql : List Jb) (ex et ec es ek ea eb eg eh : Int) (w : World) (hP : Sl w 2 A n (PR pl)) (hQ : Sl w 5 B m (JB ql)) (hl : pl.length = n) (hr : ql.length = m) (hn : n ≤ maxLen) (hm : m ≤ maxLen) :
    Calls Tryz.prog 53 #[.agg #[.int .i64 i0, .int .i64 t0, .slice A n c, .slice B m d, .int .i64 l0, .int .i64 l1, .int .i64 l2], .agg #[.int .i64 ex, .int .i64 et, .int .i64 ec, .int .i64 es, .int .i64 ek, .int .i64 ea, .int .i64 eb, .int .i64 eg, .int .i64 eh]] w fun e' w' => e' = .returned (.bool (firesInB i0 t0 l0 l1 l2 pl ql ex et ec es ek ea eb eg eh)) ∧ Below w.heap.size w w' := by
  have hL := Lib.hid hl
  have hR := Lib.hid hr
  have HP := Lib.hid hP
  have HQ := Lib.hid hQ
  clear hP hQ hl hr
  go_enter Tryz.func53, Tryz.ntmps53
  go_wp2_with fail
  refine calls_named ?_
  rintro v0 hv0
  have f0 : Below w.heap.size w v0 := by rw [hv0]; (repeat' (first | (with_reducible exact Below.refl _ _) | (with_reducible assumption) | (with_reducible refine Below.alloc ?_ ?_ _) | (with_reducible refine Below.drew ?_) | (with_reducible refine Below.setCell ?_ ?_ _) | (with_reducible refine bstep (by assumption) ?_ ?_) | (with_reducible exact Nat.le_refl _) | omega | (simp [*]; done) | (simp [*]; omega)))
  have z0 : w.heap.size + 2 ≤ v0.heap.size := by rw [hv0]; simp [size_set]
  have HP_0 := Lib.hid (HP.out.below f0)
  have HP_lt := Lib.hid (fun hn => HP.out.lt hn)
  have HQ_0 := Lib.hid (HQ.out.below f0)
  have HQ_lt := Lib.hid (fun hn => HQ.out.lt hn)
  have Ha_0 : Hid (Blk v0 w.heap.size 37 #[.int .i64 i0, .int .i64 t0, .slice A n c, .slice B m d, .int .i64 l0, .int .i64 l1, .int .i64 l2]) := by rw [hv0]; exact (Blk.new_at _ _ _ _ (by simp)).alloc _
  have Hb_0 : Hid (Blk v0 (w.heap.size + 1) 43 #[.int .i64 ex, .int .i64 et, .int .i64 ec, .int .i64 es, .int .i64 ek, .int .i64 ea, .int .i64 eb, .int .i64 eg, .int .i64 eh]) := by rw [hv0]; exact Blk.new_at _ _ _ _ (by simp)
  clear hv0
  generalize hg1 : w.heap.size + 1 = g1 at *
  have lg1 : w.heap.size < g1 := by omega
  have lgz : g1 < v0.heap.size := by omega
  have nq1x0 : ¬ g1 = w.heap.size := by omega
  have nq0x1 : ¬ w.heap.size = g1 := by omega
  clear hg1
  have lt_a := Ha_0.out.lt
  obtain ⟨r_a0, r_a1, r_a2, r_a3, r_a4, r_a5, r_a6⟩ := bc7 Ha_0.out
  have lt_b := Hb_0.out.lt
  obtain ⟨r_b0, r_b1, r_b2, r_b3, r_b4, r_b5, r_b6, r_b7, r_b8⟩ := bc9 Hb_0.out
  have cc := specNextIn_any A n c B m d i0 t0 l0 l1 l2 pl ql ex et ec es ek ea eb eg eh v0 HP_0.out HQ_0.out hL.out hR.out hn hm
  cases r0 : (nextInB i0 t0 l0 l1 l2 pl ql ex et ec es ek ea eb eg eh) with
  | false =>
    rw [r0] at cc
    have Hr0 := Lib.hid r0
    clear r0
    refine (cc).mono ?_
    rintro e v1 ⟨rfl, b1⟩
    have f1 := bthen f0 b1
    have z1 := b1.size
    have HP_1 := Lib.hid (HP_0.out.below b1)
    have HQ_1 := Lib.hid (HQ_0.out.below b1)
    have Ha_1 := Lib.hid (Ha_0.out.below b1)
    have Hb_1 := Lib.hid (Hb_0.out.below b1)
    clear lt_a r_a0 r_a1 r_a2 r_a3 r_a4 r_a5 r_a6 lt_b r_b0 r_b1 r_b2 r_b3 r_b4 r_b5 r_b6 r_b7 r_b8
    clear HP_0 HQ_0 Ha_0 Hb_0
    have lt_a := Ha_1.out.lt
    obtain ⟨r_a0, r_a1, r_a2, r_a3, r_a4, r_a5, r_a6⟩ := bc7 Ha_1.out
    have lt_b := Hb_1.out.lt
    obtain ⟨r_b0, r_b1, r_b2, r_b3, r_b4, r_b5, r_b6, r_b7, r_b8⟩ := bc9 Hb_1.out
    have hv : firesInB i0 t0 l0 l1 l2 pl ql ex et ec es ek ea eb eg eh = false := by unfold firesInB; rw [Hr0.out]; simp
    have HV := Lib.hid hv
    clear hv
    go_wp21
    go_ret
    exact ⟨ret_bool HV.out.symm, f1⟩
  | true =>
    rw [r0] at cc
    have Hr0 := Lib.hid r0
    clear r0
    refine (cc).mono ?_
    rintro e v1 ⟨rfl, b1⟩
    have f1 := bthen f0 b1
    have z1 := b1.size
    have HP_1 := Lib.hid (HP_0.out.below b1)
    have HQ_1 := Lib.hid (HQ_0.out.below b1)
    have Ha_1 := Lib.hid (Ha_0.out.below b1)
    have Hb_1 := Lib.hid (Hb_0.out.below b1)
    clear lt_a r_a0 r_a1 r_a2 r_a3 r_a4 r_a5 r_a6 lt_b r_b0 r_b1 r_b2 r_b3 r_b4 r_b5 r_b6 r_b7 r_b8
    clear HP_0 HQ_0 Ha_0 Hb_0
    have lt_a := Ha_1.out.lt
    obtain ⟨r_a0, r_a1, r_a2, r_a3, r_a4, r_a5, r_a6⟩ := bc7 Ha_1.out
    have lt_b := Hb_1.out.lt
    obtain ⟨r_b0, r_b1, r_b2, r_b3, r_b4, r_b5, r_b6, r_b7, r_b8⟩ := bc9 Hb_1.out
    clear cc
    have hx : firesInB i0 t0 l0 l1 l2 pl ql ex et ec es ek ea eb eg eh = firesB l0 l1 l2 ql et ec ek ea eb := by unfold firesInB; rw [Hr0.out]; rfl
    have HX := Lib.hid hx
    clear hx
    have HJR := Lib.hid (show jobAtR ql ea = jobAtV ql ea by unfold jobAtR; rw [if_pos (nextInB_jobs Hr0.out)])
    cases q1 : (ek == 4) with
    | false =>
      have n1 : (ek != 4) = true := by rw [bne, q1]; rfl
      have HV := Lib.hid (show firesInB i0 t0 l0 l1 l2 pl ql ex et ec es ek ea eb eg eh = false from HX.out.trans (show _ = false by unfold firesB; rw [q1]; rfl))
      go_wp21
      go_ret
      exact ⟨ret_bool HV.out.symm, f1⟩
    | true =>
      have n1 : (ek != 4) = false := by rw [bne, q1]; rfl
      have HK := Lib.hid q1
      have cc := specJobAt_any B m d ql ea v1 HQ_1.out hR.out hm
      rw [HJR.out] at cc
      obtain ⟨J, hj⟩ : ∃ J, J = jobAtV ql ea := ⟨_, rfl⟩
      rw [← hj] at cc
      obtain ⟨⟨ji, jd, jk, jv, jf⟩, ok⟩ := J
      have HE := Lib.hid (HX.out.trans (firesB_at (l0 := l0) (l1 := l1) (l2 := l2) (et := et) (ec := ec) (eb := eb) HK.out hj.symm))
      clear hj
      dsimp only at cc
      cases ok with
      | false =>
        go_wp2_with fail
        refine (cc).mono ?_
        rintro e v2 ⟨rfl, b2⟩
        have f2 := bthen f1 b2
        have z2 := b2.size
        have HP_2 := Lib.hid (HP_1.out.below b2)
        have HQ_2 := Lib.hid (HQ_1.out.below b2)
        have Ha_2 := Lib.hid (Ha_1.out.below b2)
        have Hb_2 := Lib.hid (Hb_1.out.below b2)
        clear lt_a r_a0 r_a1 r_a2 r_a3 r_a4 r_a5 r_a6 lt_b r_b0 r_b1 r_b2 r_b3 r_b4 r_b5 r_b6 r_b7 r_b8
        clear HP_1 HQ_1 Ha_1 Hb_1
        have lt_a := Ha_2.out.lt
        obtain ⟨r_a0, r_a1, r_a2, r_a3, r_a4, r_a5, r_a6⟩ := bc7 Ha_2.out
        have lt_b := Hb_2.out.lt
        obtain ⟨r_b0, r_b1, r_b2, r_b3, r_b4, r_b5, r_b6, r_b7, r_b8⟩ := bc9 Hb_2.out
        have HV := Lib.hid (show firesInB i0 t0 l0 l1 l2 pl ql ex et ec es ek ea eb eg eh = false from HE.out.trans (by simp))
        go_wp21
        go_ret
        exact ⟨ret_bool HV.out.symm, f2.alloc f2.size _⟩
      | true =>
        go_wp2_with fail
        refine (cc).mono ?_
        rintro e v2 ⟨rfl, b2⟩
        have f2 := bthen f1 b2
        have z2 := b2.size
        have HP_2 := Lib.hid (HP_1.out.below b2)
        have HQ_2 := Lib.hid (HQ_1.out.below b2)
        have Ha_2 := Lib.hid (Ha_1.out.below b2)
        have Hb_2 := Lib.hid (Hb_1.out.below b2)
        clear lt_a r_a0 r_a1 r_a2 r_a3 r_a4 r_a5 r_a6 lt_b r_b0 r_b1 r_b2 r_b3 r_b4 r_b5 r_b6 r_b7 r_b8
        clear HP_1 HQ_1 Ha_1 Hb_1
        clear cc
        have lt_a := Ha_2.out.lt
        obtain ⟨r_a0, r_a1, r_a2, r_a3, r_a4, r_a5, r_a6⟩ := bc7 Ha_2.out
        have lt_b := Hb_2.out.lt
        obtain ⟨r_b0, r_b1, r_b2, r_b3, r_b4, r_b5, r_b6, r_b7, r_b8⟩ := bc9 Hb_2.out
        cases s1 : (jf == 0) with
        | false =>
          have HE2 := Lib.hid (HE.out.trans (show _ = false by rw [s1]; simp))
          have HV := Lib.hid (show firesInB i0 t0 l0 l1 l2 pl ql ex et ec es ek ea eb eg eh = false from HE2.out)
          go_wp21
          go_ret
          exact ⟨ret_bool HV.out.symm, f2.alloc f2.size _⟩
        | true =>
          have S1 := Lib.hid s1
          by_cases s2 : jd ≤ et
          rotate_left
          · have s3 : et < jd := by omega
            have HE2 := Lib.hid (HE.out.trans (show _ = false by rw [decide_eq_false s2]; simp))
            have HV := Lib.hid (show firesInB i0 t0 l0 l1 l2 pl ql ex et ec es ek ea eb eg eh = false from HE2.out)
            go_wp21
            go_ret
            exact ⟨ret_bool HV.out.symm, f2.alloc f2.size _⟩
          have HE2 := Lib.hid (HE.out.trans (show _ = holdsB l0 l1 l2 ec eb et by rw [S1.out, decide_eq_true s2]; rfl))
          go_wp2_with fail
          refine calls_named ?_
          rintro v3 hv3
          have f3 : Below w.heap.size w v3 := by rw [hv3]; (repeat' (first | (with_reducible exact Below.refl _ _) | (with_reducible assumption) | (with_reducible refine Below.alloc ?_ ?_ _) | (with_reducible refine Below.drew ?_) | (with_reducible refine Below.setCell ?_ ?_ _) | (with_reducible refine bstep (by assumption) ?_ ?_) | (with_reducible exact Nat.le_refl _) | omega | (simp [*]; done) | (simp [*]; omega)))
          have z3 : v2.heap.size + 1 ≤ v3.heap.size := by rw [hv3]; simp [size_set]
          have HP_3 : Hid (Sl v3 2 A n (PR pl)) := by rw [hv3]; exact (HP_2.out).alloc _
          have HQ_3 : Hid (Sl v3 5 B m (JB ql)) := by rw [hv3]; exact (HQ_2.out).alloc _
          have Ha_3 : Hid (Blk v3 w.heap.size 37 #[.int .i64 i0, .int .i64 t0, .slice A n c, .slice B m d, .int .i64 l0, .int .i64 l1, .int .i64 l2]) := by rw [hv3]; exact (Ha_2.out).alloc _
          have Hb_3 : Hid (Blk v3 g1 43 #[.int .i64 ex, .int .i64 et, .int .i64 ec, .int .i64 es, .int .i64 ek, .int .i64 ea, .int .i64 eb, .int .i64 eg, .int .i64 eh]) := by rw [hv3]; exact (Hb_2.out).alloc _
          have Hj_3 : Hid (Blk v3 v2.heap.size 71 #[.int .i64 ji, .int .i64 jd, .int .i64 jk, .int .i64 jv, .int .i64 jf]) := by rw [hv3]; exact (Blk.new_at _ _ _ _ (by simp [size_set]))
          clear lt_a r_a0 r_a1 r_a2 r_a3 r_a4 r_a5 r_a6 lt_b r_b0 r_b1 r_b2 r_b3 r_b4 r_b5 r_b6 r_b7 r_b8
          clear hv3 HP_2 HQ_2 Ha_2 Hb_2
          have ch := specHoldsAt_any l0 l1 l2 ec eb et v3
          generalize holdsB l0 l1 l2 ec eb et = q at ch HE2
          have lt_a := Ha_3.out.lt
          obtain ⟨r_a0, r_a1, r_a2, r_a3, r_a4, r_a5, r_a6⟩ := bc7 Ha_3.out
          have lt_b := Hb_3.out.lt
          obtain ⟨r_b0, r_b1, r_b2, r_b3, r_b4, r_b5, r_b6, r_b7, r_b8⟩ := bc9 Hb_3.out
          have lt_j := Hj_3.out.lt
          obtain ⟨r_j0, r_j1, r_j2, r_j3, r_j4⟩ := bc5 Hj_3.out
          refine (ch).mono ?_
          rintro e v4 ⟨rfl, b4⟩
          have f4 := bthen f3 b4
          have z4 := b4.size
          have HP_4 := Lib.hid (HP_3.out.below b4)
          have HQ_4 := Lib.hid (HQ_3.out.below b4)
          have Ha_4 := Lib.hid (Ha_3.out.below b4)
          have Hb_4 := Lib.hid (Hb_3.out.below b4)
          have Hj_4 := Lib.hid (Hj_3.out.below b4)
          clear lt_a r_a0 r_a1 r_a2 r_a3 r_a4 r_a5 r_a6 lt_b r_b0 r_b1 r_b2 r_b3 r_b4 r_b5 r_b6 r_b7 r_b8 lt_j r_j0 r_j1 r_j2 r_j3 r_j4
          clear HP_3 HQ_3 Ha_3 Hb_3 Hj_3
          clear ch
          have lt_a := Ha_4.out.lt
          obtain ⟨r_a0, r_a1, r_a2, r_a3, r_a4, r_a5, r_a6⟩ := bc7 Ha_4.out
          have lt_b := Hb_4.out.lt
          obtain ⟨r_b0, r_b1, r_b2, r_b3, r_b4, r_b5, r_b6, r_b7, r_b8⟩ := bc9 Hb_4.out
          have lt_j := Hj_4.out.lt
          obtain ⟨r_j0, r_j1, r_j2, r_j3, r_j4⟩ := bc5 Hj_4.out
          go_wp21
          go_ret
          exact ⟨ret_bool HE2.out.symm, f4⟩
end Go.Proofs.YtokklkmibjpjnaaGreat
namespace Go.Proofs.YtokklkmibjpjnaaGreat
set_option linter.unusedSimpArgs false
set_option linter.unusedVariables false
attribute [local go_sem] n_lt2 n_lt3 n_lt4 n_le2 n_le3
open Go.RowKit
theorem fset_len (l : List Jb) (k : Nat) (x : Int) : (firedSet l k x).length = l.length := by unfold firedSet; simp
theorem fset_get (l : List Jb) (k : Nat) (x : Int) (hk : k < l.length) (j : Nat) : (firedSet l k x).getD j default = if j = k then { (l.getD k default) with f := x } else l.getD j default := by
  unfold firedSet
  by_cases h : j = k
  · subst h
    rw [if_pos rfl, List.getD_eq_getElem?_getD, List.getElem?_set_self hk]
    rfl
  · rw [if_neg h, List.getD_eq_getElem?_getD, List.getElem?_set_ne (fun e => h e.symm), ← List.getD_eq_getElem?_getD]
theorem fset_i (l : List Jb) (k : Nat) (x : Int) (hk : k < l.length) (j : Nat) : ((firedSet l k x).getD j default).i = (l.getD j default).i := by
  rw [fset_get l k x hk]
  split
  · rename_i h; subst h; rfl
  · rfl
theorem before_iff (l : List Jb) (i : Nat) (x : Int) : firedBefore l i x = true ↔ ∃ m, m < i ∧ (l.getD m default).f = x := by
  unfold firedBefore
  simp [List.any_eq_true]
theorem firedOk_parts {l : List Jb} {id x : Int} (h : firedOk l id x = true) : jobIx l id < l.length ∧ (l.getD (jobIx l id) default).f = 0 ∧ 1 ≤ x ∧ x ≤ 2000 ∧ ∀ m, m < l.length → (l.getD m default).f ≠ x := by
  unfold firedOk at h
  simp only [Bool.and_eq_true, decide_eq_true_eq, inB_iff, Bool.not_eq_true'] at h
  obtain ⟨h1, h2, ⟨h3, h4⟩, h5⟩ := h
  refine ⟨h1, h2, h3, h4, fun m hm he => ?_⟩
  have := (before_iff l l.length x).2 ⟨m, hm, he⟩
  rw [h5] at this
  cases this
theorem fset_ok {l : List Jb} {id x : Int} (hb : jobsB l = true) (ho : firedOk l id x = true) : jobsB (firedSet l (jobIx l id) x) = true := by
  obtain ⟨hk, hf, hx1, hx2, hno⟩ := firedOk_parts ho
  generalize jobIx l id = k at hk hf ⊢
  obtain ⟨h8, hall⟩ := jobsB_all hb
  refine jobsB_true (by rw [fset_len]; exact h8) (fun j hj => ?_)
  rw [fset_len] at hj
  have hj0 := hall j hj
  unfold jobAtB at hj0 ⊢
  simp only [Bool.and_eq_true, Bool.or_eq_true, decide_eq_true_eq, Bool.not_eq_true', Bool.and_eq_false_iff, decide_eq_false_iff_not] at hj0 ⊢
  obtain ⟨h1, h2, h3⟩ := hj0
  refine ⟨?_, ?_, ?_⟩
  · rw [fset_get l k x hk]
    split
    · rename_i h
      subst h
      unfold jobOkB jobB at h1 ⊢
      simp only [Bool.and_eq_true, inB_iff] at h1 ⊢
      omega
    · exact h1
  · rw [fset_i l k x hk, fset_i l k x hk]
    exact h2
  · by_cases h : j = k
    · subst h
      right
      rw [Bool.eq_false_iff]
      intro hc
      obtain ⟨m, hm, he⟩ := (before_iff _ _ _).1 hc
      rw [fset_get l j x hk, fset_get l j x hk, if_neg (by omega), if_pos rfl] at he
      exact hno m (by omega) he
    · rw [fset_get l k x hk, if_neg h]
      rcases h3 with h3 | h3
      · exact .inl h3
      · right
        rw [Bool.eq_false_iff]
        intro hc
        obtain ⟨m, hm, he⟩ := (before_iff _ _ _).1 hc
        rw [fset_get l k x hk] at he
        by_cases hmk : m = k
        · rw [if_pos hmk] at he
          exact hno j hj he.symm
        · rw [if_neg hmk] at he
          have := (before_iff l j _).2 ⟨m, hm, he⟩
          rw [h3] at this
          cases this
/-- What the law asks of a job list in which a job was just fired. -/
theorem once_job {l : List Jb} {id x : Int} (hb : jobsB l = true) (ho : firedOk l id x = true) :
    jobsB (firedSet l (jobIx l id) x) = true ∧ (jobAtV (firedSet l (jobIx l id) x) id).2 = true ∧ (jobAtV (firedSet l (jobIx l id) x) id).1.f = x ∧ (∀ y, (firedR (firedSet l (jobIx l id) x) id y).2 = false) ∧ (∀ b c d f, (addR (firedSet l (jobIx l id) x) ⟨id, b, c, d, f⟩).2 = false) := by
  have hB := fset_ok hb ho
  obtain ⟨hk, hf, hx1, hx2, hno⟩ := firedOk_parts ho
  have hid := jobIx_hit hk
  have hix : jobIx (firedSet l (jobIx l id) x) id = jobIx l id := jobIx_at hB (by rw [fset_len]; exact hk) (by rw [fset_i l _ x hk]; exact hid)
  have hv : jobAtV (firedSet l (jobIx l id) x) id = ((firedSet l (jobIx l id) x).getD (jobIx l id) default, true) := by
    unfold jobAtV
    rw [hix, fset_len, if_pos hk]
  refine ⟨hB, by rw [hv], by rw [hv, fset_get l _ x hk, if_pos rfl], fun y => ?_, fun b c d f => ?_⟩
  · unfold firedR
    rw [if_pos hB]
    have hn : firedOk (firedSet l (jobIx l id) x) id y = false := by
      unfold firedOk
      rw [hix, fset_get l _ x hk, if_pos rfl]
      have : decide (x = 0) = false := by simp; omega
      simp only [this, Bool.false_and, Bool.and_false]
    rw [if_neg (by rw [hn]; decide)]
  · unfold addR
    rw [if_pos hB]
    have hn : addOk (firedSet l (jobIx l id) x) ⟨id, b, c, d, f⟩ = false := by
      unfold addOk
      simp only [hv]
      simp
    rw [if_neg (by rw [hn]; decide)]
theorem once_of {l z : List Jb} {id x : Int} (h : firedR l id x = (z, true)) : jobsB z = true ∧ (jobAtR z id).2 = true ∧ (jobAtR z id).1.f = x ∧ (∀ y, (firedR z id y).2 = false) ∧ (∀ b c d f, (addR z ⟨id, b, c, d, f⟩).2 = false) := by
  unfold firedR at h
  split at h
  · rename_i hb
    split at h
    · rename_i ho
      injection h with h1 _
      subst h1
      obtain ⟨a, b, c, d, e⟩ := once_job hb ho
      unfold jobAtR
      rw [if_pos a]
      exact ⟨a, b, c, d, e⟩
    · injection h with _ h2; cases h2
  · injection h with _ h2; cases h2
end Go.Proofs.YtokklkmibjpjnaaGreat
namespace Go.Proofs.YtokklkmibjpjnaaGreat
set_option linter.unusedSimpArgs false
set_option linter.unusedVariables false
attribute [local go_sem] n_lt2 n_lt3 n_lt4 n_le2 n_le3
open Go.RowKit

theorem pairs_up {l : List Pr} (h : pairsB l = true) : ∀ d i, i + d + 1 < l.length → (l.getD i default).k < (l.getD (i + d + 1) default).k
  | 0, i, hi => by
    have := pairsB_all h (i + 1) (by omega)
    simp only [pairAt, Bool.and_eq_true, Bool.or_eq_true, decide_eq_true_eq, Nat.add_sub_cancel] at this
    rcases this.2.2 with h0 | h0
    · omega
    · exact h0
  | d + 1, i, hi => by
    have h1 := pairs_up h d i (by omega)
    have h2 := pairs_up h 0 (i + d + 1) (by omega)
    exact Int.lt_trans h1 h2
theorem pairs_apart {l : List Pr} (h : pairsB l = true) : l.Pairwise (fun p q => p.k ≠ q.k) := by
  rw [List.pairwise_iff_getElem]
  intro i j hi hj hij
  have := pairs_up h (j - i - 1) i (by omega)
  rw [show i + (j - i - 1) + 1 = j by omega] at this
  simp only [List.getD, List.getElem?_eq_getElem hi, List.getElem?_eq_getElem hj, Option.getD_some] at this
  omega
theorem cutL_all {l : List Pr} {key : Int} (h : ∀ p ∈ l, p.k ≠ key) : cutL l key = l := by
  unfold cutL
  rw [List.filter_eq_self]
  intro p hp
  simpa using h p hp
theorem cutL_erase_of : ∀ {l : List Pr} {key : Int}, l.Pairwise (fun p q => p.k ≠ q.k) → cutL l key = l.eraseIdx (keyIx l key)
  | [], _, _ => rfl
  | p :: l, key, h => by
    rw [List.pairwise_cons] at h
    by_cases hp : p.k = key
    · have h0 : keyIx (p :: l) key = 0 := by simp [keyIx, List.findIdx_cons, hp]
      rw [h0, List.eraseIdx_cons_zero]
      have h1 : cutL (p :: l) key = cutL l key := by simp [cutL, hp]
      rw [h1]
      exact cutL_all (fun q hq => by rw [← hp]; exact (h.1 q hq).symm)
    · have h0 : keyIx (p :: l) key = keyIx l key + 1 := by simp [keyIx, List.findIdx_cons, hp]
      have h1 : cutL (p :: l) key = p :: cutL l key := by simp [cutL, hp]
      rw [h0, h1, List.eraseIdx_cons_succ, cutL_erase_of h.2]
theorem cutL_erase {l : List Pr} (key : Int) (h : pairsB l = true) : cutL l key = l.eraseIdx (keyIx l key) := cutL_erase_of (pairs_apart h)
end Go.Proofs.YtokklkmibjpjnaaGreat
namespace Go.Proofs.YtokklkmibjpjnaaGreat
set_option linter.unusedSimpArgs false
set_option linter.unusedVariables false
attribute [local go_sem] n_lt2 n_lt3 n_lt4 n_le2 n_le3
open Go.RowKit

theorem pairs_lt {l : List Pr} (h : pairsB l = true) : l.Pairwise (fun p q => p.k < q.k) := by
  rw [List.pairwise_iff_getElem]
  intro i j hi hj hij
  have := pairs_up h (j - i - 1) i (by omega)
  rw [show i + (j - i - 1) + 1 = j by omega] at this
  simpa only [List.getD, List.getElem?_eq_getElem hi, List.getElem?_eq_getElem hj, Option.getD_some] using this
theorem pairs_rng {l : List Pr} (h : pairsB l = true) : ∀ p ∈ l, 0 ≤ p.k ∧ p.k ≤ 9 := fun p hp => by
  obtain ⟨i, hi, rfl⟩ := List.getElem_of_mem hp
  have := pairs_key (pairsB_all h) i hi
  simp only [List.getD, List.getElem?_eq_getElem hi, Option.getD_some] at this
  omega
def look (l : List Pr) (key : Int) : Option Pr := l.find? (fun p => decide (p.k = key))
theorem look_cons (p : Pr) (l : List Pr) (key : Int) : look (p :: l) key = if p.k = key then some p else look l key := by
  unfold look
  rw [List.find?_cons]
  by_cases h : p.k = key <;> simp [h]
theorem look_key {l : List Pr} {key : Int} {p : Pr} (h : look l key = some p) : p.k = key ∧ p ∈ l := by
  unfold look at h
  exact ⟨by simpa using List.find?_some h, List.mem_of_find?_eq_some h⟩
theorem look_none {l : List Pr} {key : Int} (h : ∀ p ∈ l, p.k ≠ key) : look l key = none := by
  unfold look
  rw [List.find?_eq_none]
  intro p hp
  simpa using h p hp
theorem valAt_look (l : List Pr) (key : Int) : valAt l key = match look l key with | some p => (p.v, true) | none => (0, false) := by
  induction l with
  | nil => rfl
  | cons p l ih =>
    rw [look_cons]
    by_cases h : p.k = key
    · have : keyIx (p :: l) key = 0 := by simp [keyIx, List.findIdx_cons, h]
      simp [valAt, this, h]
    · have h1 : keyIx (p :: l) key = keyIx l key + 1 := by simp [keyIx, List.findIdx_cons, h]
      rw [if_neg h, ← ih]
      simp [valAt, h1]
theorem canon : ∀ (m : Nat) (a : Int) (l : List Pr), l.Pairwise (fun p q => p.k < q.k) → (∀ p ∈ l, a ≤ p.k ∧ p.k < a + m) → (List.range m).filterMap (fun j : Nat => look l (a + j)) = l
  | 0, a, l, _, h => by
    match l with
    | [] => rfl
    | p :: l => have := h p (by simp); omega
  | m + 1, a, l, hs, h => by
    have hstep : ∀ t : List Pr, (List.range m).filterMap (fun j : Nat => look t (a + (j + 1 : Nat))) = (List.range m).filterMap (fun j : Nat => look t (a + 1 + j)) := fun t => by
      congr 1
      funext j
      congr 1
      omega
    rw [List.range_succ_eq_map, List.filterMap_cons, List.filterMap_map]
    rw [show ((fun j : Nat => look l (a + j)) ∘ Nat.succ) = (fun j : Nat => look l (a + (j + 1 : Nat))) from rfl]
    match l with
    | [] =>
      rw [look_none (by simp), hstep]
      exact canon m (a + 1) [] List.Pairwise.nil (by simp)
    | p :: t =>
      rw [List.pairwise_cons] at hs
      by_cases hp : p.k = a
      · rw [look_cons, if_pos (by omega)]
        simp only
        congr 1
        have e : ∀ j : Nat, look (p :: t) (a + (j + 1 : Nat)) = look t (a + 1 + j) := fun j => by
          rw [look_cons, if_neg (by omega)]
          congr 1
          omega
        simp only [e]
        exact canon m (a + 1) t hs.2 (fun q hq => by
          have h1 := hs.1 q hq
          have h2 := h q (by simp [hq])
          omega)
      · have h0 := h p (by simp)
        rw [look_none (fun q hq => by
          rcases List.mem_cons.1 hq with rfl | hq
          · omega
          · have := hs.1 q hq
            omega), hstep]
        exact canon m (a + 1) (p :: t) (List.pairwise_cons.2 hs) (fun q hq => by
          have h2 := h q hq
          rcases List.mem_cons.1 hq with rfl | hq
          · omega
          · have := hs.1 q hq
            omega)

/-- The pair put at its place. -/
def putL : List Pr → Int → Int → List Pr
  | [], key, v => [⟨key, v⟩]
  | p :: t, key, v => if p.k < key then p :: putL t key v else if p.k = key then ⟨key, v⟩ :: t else ⟨key, v⟩ :: p :: t
theorem putL_look (l : List Pr) (key v k : Int) : look (putL l key v) k = if k = key then some ⟨key, v⟩ else look l k := by
  induction l with
  | nil =>
    rw [putL, look_cons]
    by_cases h : k = key
    · simp [h]
    · rw [if_neg (by simpa using Ne.symm h), if_neg h]
  | cons p t ih =>
    rw [putL]
    split
    · rename_i h1
      rw [look_cons, ih, look_cons]
      by_cases h : k = key
      · subst h
        rw [if_neg (by omega), if_pos rfl, if_pos rfl]
      · rw [if_neg h, if_neg h]
    · split
      · rename_i h1 h2
        rw [look_cons, look_cons]
        by_cases h : k = key
        · subst h; simp
        · rw [if_neg (by simpa using Ne.symm h), if_neg h, if_neg (by omega)]
      · rw [look_cons, look_cons]
        by_cases h : k = key
        · subst h; simp
        · rw [if_neg (by simpa using Ne.symm h), if_neg h]
theorem putL_mem {l : List Pr} {key v : Int} {q : Pr} (h : q ∈ putL l key v) : q = ⟨key, v⟩ ∨ q ∈ l := by
  induction l with
  | nil => rw [putL] at h; simpa using h
  | cons p t ih =>
    rw [putL] at h
    split at h
    · rcases List.mem_cons.1 h with rfl | h
      · exact .inr (by simp)
      · rcases ih h with h | h
        · exact .inl h
        · exact .inr (by simp [h])
    · split at h
      · rcases List.mem_cons.1 h with rfl | h
        · exact .inl rfl
        · exact .inr (by simp [h])
      · rcases List.mem_cons.1 h with rfl | h
        · exact .inl rfl
        · exact .inr h
theorem putL_lt {l : List Pr} (key v : Int) (h : l.Pairwise (fun p q => p.k < q.k)) : (putL l key v).Pairwise (fun p q => p.k < q.k) := by
  induction l with
  | nil => simp [putL]
  | cons p t ih =>
    rw [List.pairwise_cons] at h
    rw [putL]
    split
    · rename_i h1
      rw [List.pairwise_cons]
      refine ⟨fun q hq => ?_, ih h.2⟩
      rcases putL_mem hq with rfl | hq
      · exact h1
      · exact h.1 q hq
    · split
      · rename_i h1 h2
        rw [List.pairwise_cons]
        exact ⟨fun q hq => by have := h.1 q hq; show key < q.k; omega, h.2⟩
      · rename_i h1 h2
        rw [List.pairwise_cons, List.pairwise_cons]
        refine ⟨fun q hq => ?_, h⟩
        rcases List.mem_cons.1 hq with rfl | hq
        · show key < q.k; omega
        · have := h.1 q hq; show key < q.k; omega
theorem putL_len (l : List Pr) (key v : Int) : (putL l key v).length ≤ l.length + 1 := by
  induction l with
  | nil => simp [putL]
  | cons p t ih =>
    rw [putL]
    split
    · simpa using ih
    · split <;> simp
theorem putL_set : ∀ (k : Nat) (l : List Pr) (key v : Int), k < l.length → (∀ j, j < k → (l.getD j default).k < key) → (l.getD k default).k = key → putL l key v = l.set k ⟨key, v⟩
  | _, [], _, _, h, _, _ => by simp at h
  | 0, p :: t, key, v, _, _, he => by
    simp only [List.getD_cons_zero] at he
    rw [putL, if_neg (by omega), if_pos he]
    rfl
  | k + 1, p :: t, key, v, h, hj, he => by
    have h0 := hj 0 (by omega)
    simp only [List.getD_cons_zero] at h0
    rw [putL, if_pos h0, putL_set k t key v (by simpa using h) (fun j hjk => by simpa using hj (j + 1) (by omega)) (by simpa using he)]
    rfl
theorem putL_ins : ∀ (k : Nat) (l : List Pr) (key v : Int), k ≤ l.length → (∀ j, j < k → (l.getD j default).k < key) → (k < l.length → key < (l.getD k default).k) → putL l key v = l.take k ++ ⟨key, v⟩ :: l.drop k
  | 0, [], key, v, _, _, _ => rfl
  | 0, p :: t, key, v, _, _, he => by
    have he' := he (by simp)
    simp only [List.getD_cons_zero] at he'
    rw [putL, if_neg (by omega), if_neg (by omega)]
    rfl
  | k + 1, [], key, v, h, _, _ => by simp at h
  | k + 1, p :: t, key, v, h, hj, he => by
    have h0 := hj 0 (by omega)
    simp only [List.getD_cons_zero] at h0
    rw [putL, if_pos h0, putL_ins k t key v (by simpa using h) (fun j hjk => by simpa using hj (j + 1) (by omega)) (fun h' => by simpa using he (by simpa using h'))]
    rfl

/-- What the reference lists. -/
def putG (l : List Pr) (key v : Int) (j : Nat) : Option Pr := if (j : Int) = key then some ⟨j, v⟩ else if (valAt l j).2 = true then some ⟨j, (valAt l j).1⟩ else none
def putTo (l : List Pr) (key v : Int) (k : Nat) : List Pr := (List.range k).filterMap (putG l key v)
theorem putTo_succ (l : List Pr) (key v : Int) (k : Nat) : putTo l key v (k + 1) = putTo l key v k ++ (putG l key v k).toList := by
  unfold putTo
  rw [List.range_succ, List.filterMap_append]
  congr 1
theorem putTo_len (l : List Pr) (key v : Int) (k : Nat) : (putTo l key v k).length ≤ k := by
  unfold putTo
  exact Nat.le_trans (List.length_filterMap_le _ _) (by simp)
theorem putG_look (l : List Pr) (key v : Int) (j : Nat) : putG l key v j = look (putL l key v) (0 + (j : Int)) := by
  rw [putL_look, Int.zero_add]
  unfold putG
  by_cases h : (j : Int) = key
  · rw [if_pos h, if_pos h, h]
  · rw [if_neg h, if_neg h, valAt_look]
    cases hl : look l j with
    | none => simp
    | some p =>
      have := (look_key hl).1
      obtain ⟨k, u⟩ := p
      simp only at this ⊢
      rw [if_pos trivial, this]
theorem putTo_all {l : List Pr} {key v : Int} (h : pairsB l = true) (hk : 0 ≤ key ∧ key ≤ 9) : putTo l key v 10 = putL l key v := by
  have e : putG l key v = fun j : Nat => look (putL l key v) (0 + (j : Int)) := funext (putG_look l key v)
  unfold putTo
  rw [e]
  refine canon 10 0 (putL l key v) (putL_lt key v (pairs_lt h)) (fun p hp => ?_)
  rcases putL_mem hp with rfl | hp
  · show 0 ≤ key ∧ key < 0 + ((10 : Nat) : Int)
    omega
  · have := pairs_rng h p hp
    omega

/-- Put's two results. -/
def putR (l : List Pr) (key v : Int) : List Pr × Bool := if pairsB l = true then (if rightB key v = true then (putL l key v, true) else (l, false)) else ([], false)
theorem putR_len (l : List Pr) (key v : Int) : (putR l key v).1.length ≤ 11 := by
  unfold putR
  split
  · rename_i h
    have h1 := pairsB_len h
    split
    · have := putL_len l key v
      simp only; omega
    · simp only; omega
  · simp
theorem PR_take' (l : List Pr) (k : Nat) : PR (l.take k) = (PR l).take (k * 2) := by
  induction l generalizing k with
  | nil => simp [PR]
  | cons p l ih =>
    cases k with
    | zero => simp [PR]
    | succ k =>
      have := ih k
      rw [List.take_succ_cons, show (k + 1) * 2 = k * 2 + 1 + 1 by omega]
      simp only [PR, List.flatMap_cons, List.cons_append, List.nil_append, List.take_succ_cons] at this ⊢
      rw [this]
theorem PR_drop' (l : List Pr) (k : Nat) : PR (l.drop k) = (PR l).drop (k * 2) := by
  induction l generalizing k with
  | nil => simp [PR]
  | cons p l ih =>
    cases k with
    | zero => simp [PR]
    | succ k =>
      have := ih k
      rw [List.drop_succ_cons, show (k + 1) * 2 = k * 2 + 1 + 1 by omega]
      simp only [PR, List.flatMap_cons, List.cons_append, List.nil_append, List.drop_succ_cons] at this ⊢
      exact this
theorem PR_ins (l : List Pr) (k : Nat) (key v : Int) : PR (l.take k ++ ⟨key, v⟩ :: l.drop k) = (PR l).take (k * 2) ++ [key, v] ++ (PR l).drop (k * 2) := by
  rw [PR_append, PR_take', List.append_assoc]
  congr 1
  show [key, v] ++ PR (l.drop k) = _
  rw [PR_drop']
theorem PR_set_getD (l : List Pr) (k : Nat) (key v : Int) (hk : k < l.length) (he : (l.getD k default).k = key) (t : Nat) (ht : t < l.length * 2) : (PR (l.set k ⟨key, v⟩)).getD t 0 = if t = k * 2 + 1 then v else (PR l).getD t 0 := by
  have hlen : (l.set k ⟨key, v⟩).length = l.length := by simp
  have hi : t / 2 < l.length := by omega
  have hset : ∀ i, i < l.length → (l.set k ⟨key, v⟩).getD i default = if i = k then ⟨key, v⟩ else l.getD i default := fun i hi => by
    by_cases h : i = k
    · subst h; simp [List.getD, hi]
    · simp [List.getD, List.getElem?_set_ne (Ne.symm h), h]
  rcases Nat.mod_two_eq_zero_or_one t with h | h
  · have ht' : t = t / 2 * 2 := by omega
    rw [ht', PR_get0 _ _ (by rw [hlen]; exact hi), PR_get0 _ _ hi, if_neg (by omega), hset _ hi]
    split
    · rename_i h2; rw [h2]; exact he.symm
    · rfl
  · have ht' : t = t / 2 * 2 + 1 := by omega
    rw [ht', PR_get1 _ _ (by rw [hlen]; exact hi), PR_get1 _ _ hi, hset _ hi]
    by_cases h2 : t / 2 = k
    · rw [if_pos h2, if_pos (by omega)]
    · rw [if_neg h2, if_neg (by omega)]
end Go.Proofs.YtokklkmibjpjnaaGreat
namespace Go.Proofs.YtokklkmibjpjnaaGreat
set_option linter.unusedSimpArgs false
set_option linter.unusedVariables false
attribute [local go_sem] n_lt2 n_lt3 n_lt4 n_le2 n_le3
open Go.RowKit

theorem zero_Pair (w : World) : (zeroValue 106).run Tryz.prog w = .ok (.agg #[.int .i64 0, .int .i64 0]) w := by kernel_rfl
set_option maxRecDepth 100000 in
set_option maxHeartbeats 2000000 in
theorem deletePair_at (g lo n cap k j : Nat) (cs : Array Value) (news : List Value) (w : World) (K : Blk w g 106 cs) (hlo : lo ≤ g) (hcs : cs.size = cap * 2) (hkj : j = k + 1) (hjn : j ≤ n) (hnc : n ≤ cap) (hcm : cap ≤ maxLen)
    (hnl : news.length = (n - j) * 2) (hnw : ∀ t u, news[t]? = some u → cs[j * 2 + t]? = some u) (h1 : ∀ u ∈ news, u.oneCell' = true) :
    Calls Tryz.prog 118 #[.slice (some ⟨g, 0, none⟩) n cap, .int .i64 (k : Nat), .int .i64 (j : Nat)] w fun e w' => e = .returned (.slice (some ⟨g, 0, none⟩) (k + (n - j)) cap) ∧
      Blk w' g 106 (over (over cs (k * 2) news) ((k + (n - j)) * 2) (zeros ((n - (k + (n - j))) * 2))) ∧ Below lo w w' := by
  unfold maxLen at hcm
  obtain ⟨i0, hi0, hz0, hs0, hy0⟩ := info_parts info_Pair
  obtain ⟨A, hA, hsrc⟩ : ∃ A : Addr, (if cap = j then some (⟨g, 0, none⟩ : Addr) else some ⟨g, j * 2, none⟩) = some A ∧ Hid (∀ t u, news[t]? = some u → w.drew.cell? (A.add t) = some u) := by
    by_cases h : cap = j
    · refine ⟨⟨g, 0, none⟩, by simp [h], fun t u hu => ?_⟩
      have h0 : news.length = 0 := by rw [hnl]; omega
      rw [List.length_eq_zero_iff.1 h0] at hu
      simp at hu
    · refine ⟨⟨g, j * 2, none⟩, by simp [h], fun t u hu => ?_⟩
      have : (⟨g, j * 2, none⟩ : Addr).add t = ⟨g, j * 2 + t, none⟩ := by unfold Addr.add; split <;> simp_all
      rw [this]
      exact (K.drew.cell _).trans (hnw t u hu)
  have s1 : Hid (news.length = (n - j) * 2) := hnl
  have s2 : Hid (∀ u ∈ news, u.oneCell' = true) := h1
  have s3 : Hid (∀ t, t < news.length → (w.drew.cell? ⟨g, 0 + k * 2 + t, none⟩).isSome = true ∧ w.drew.frozen? ⟨g, 0 + k * 2 + t, none⟩ = false) := by
    intro t ht
    obtain ⟨c, hc⟩ := K.drew.has (i := 0 + k * 2 + t) (by omega)
    exact ⟨by rw [hc]; rfl, K.drew.frozen _⟩
  obtain ⟨W1, hW1⟩ : ∃ W1, W1 = w.drew.setCells g (0 + k * 2) news := ⟨_, rfl⟩
  have K1 : Blk W1 g 106 (over cs (k * 2) news) := by rw [hW1, Nat.zero_add]; exact Blk.over _ _ _ _ K.drew
  have b1 : Below lo w W1 := by rw [hW1]; exact below_setCells hlo _ _ _ (Below.drew (Below.refl _ _))
  have hsz1 : (over cs (k * 2) news).size = cap * 2 := by rw [over_size, hcs]
  have hcl : ∀ ty, (Builtin.clear_ #[33] ty #[.slice (some ⟨g, (k + (n - j)) * 2, none⟩) (n - (k + (n - j))) (cap - (k + (n - j)))]).run Tryz.prog W1 = .ok (.tuple #[]) (W1.setCells g ((k + (n - j)) * 2) (zeros ((n - (k + (n - j))) * 2))) :=
    fun ty => run_clear_flat W1 _ _ ty _ 2 Tryz.underlying33 zero_Pair rfl g ((k + (n - j)) * 2) _ _ (by omega)
      (fun t ht => by obtain ⟨c, hc⟩ := K1.has (i := (k + (n - j)) * 2 + t) (by omega); rw [hc]; rfl) (fun t _ => K1.frozen _)
  have hW : Hid (W1 = w.drew.setCells g (0 + k * 2) news) := hW1
  have HF := Lib.hid (And.intro K1 b1)
  have hlt : k < j := by omega
  have hkn : k ≤ n := by omega
  have hkc : k ≤ cap := by omega
  have hjc : j ≤ cap := by omega
  have hne : ¬ (k : Int) = (j : Int) := by omega
  clear hW1 hnl hnw h1 K K1 b1 hsz1 hcs hkj
  go_enter Tryz.func118, Tryz.ntmps118
  go_wp2_with fail
  go_region_law (refine step_append_room rfl (.tmp 22) (.tmp 25) 33 rfl 106 i0 2 Tryz.underlying33 hi0 hs0 g 0 k cap (by simp [Act.eval, Act.put]) A (n - j) (cap - j) news (by simp [Act.eval, Act.put]) s1.out hsrc.out s2.out (by omega) s3.out ?_; rw [← hW.out])
  go_wp2
  go_ret
  exact ⟨rfl, Blk.over _ _ _ _ HF.out.1, below_setCells hlo _ _ _ HF.out.2⟩
/-- Delete of element k: the row without it. -/
theorem deletePair_any (lo : Nat) (A : Option Addr) (n cap k : Nat) (zs : List Int) (w : World) (R : Row w lo 106 2 A n cap zs) (hk : k < n) :
    Calls Tryz.prog 118 #[.slice A n cap, .int .i64 (k : Nat), .int .i64 ((k + 1 : Nat) : Int)] w fun e w' => e = .returned (.slice A (n - 1) cap) ∧ Row w' lo 106 2 A (n - 1) cap (zs.take (k * 2) ++ zs.drop (k * 2 + 2)) ∧ Below lo w w' := by
  obtain ⟨g, cs, rfl, hlo, K, hnc, hcm, hcs, hj⟩ := R.blk (by omega)
  have hzl := R.len
  have hnl : (ints (zs.drop (k * 2 + 2))).length = (n - (k + 1)) * 2 := by rw [ints_length, List.length_drop]; omega
  refine (deletePair_at g lo n cap k (k + 1) cs (ints (zs.drop (k * 2 + 2))) w K hlo hcs rfl (by omega) hnc hcm hnl (fun t u hu => ?_) (ints_oneCell' _)).mono ?_
  · have ht : t < (zs.drop (k * 2 + 2)).length := by
      have := (List.getElem?_eq_some_iff.1 hu).1
      rwa [ints_length] at this
    rw [ints_get _ t ht] at hu
    rw [List.length_drop] at ht
    rw [hj _ (by omega), ← hu, getD_drop]
    congr 3
    omega
  · rintro e w' ⟨rfl, K', b'⟩
    have e1 : k + (n - (k + 1)) = n - 1 := by omega
    rw [e1] at K' ⊢
    refine ⟨rfl, Row.of_blk K' hlo (by omega) hcm (by rw [over_size, over_size, hcs]) (by simp; omega) (fun t ht => ?_), b'⟩
    rw [over_out _ _ _ _ (.inl (by omega))]
    by_cases h1 : t < k * 2
    · rw [over_out _ _ _ _ (.inl h1), hj t (by omega), getD_append_l _ _ _ (by simp; omega), getD_take _ _ _ h1]
    · have e2 : t = k * 2 + (t - k * 2) := by omega
      rw [e2, over_in _ _ _ _ (by rw [hnl]; omega) (by rw [hnl]; omega), ints_get _ _ (by rw [List.length_drop]; omega), ← e2, getD_append_r _ _ _ (by simp; omega)]
      congr 3
      simp
      omega
end Go.Proofs.YtokklkmibjpjnaaGreat
namespace Go.Proofs.YtokklkmibjpjnaaGreat
set_option linter.unusedSimpArgs false
set_option linter.unusedVariables false
attribute [local go_sem] n_lt2 n_lt3 n_lt4 n_le2 n_le3
open Go.RowKit

theorem Row.nil_of {w : World} {lo : Nat} {e : TypeId} {s : Nat} {A : Option Addr} {n cap : Nat} {zs : List Int} (h : Row w lo e s A n cap zs) : A = none → n = 0 ∧ cap = 0 := fun hA => by
  rcases h.2 with ⟨hv, h0⟩ | ⟨g, c, cur, hv, _⟩
  · injection hv with _ _ hc
    exact ⟨h0, hc⟩
  · injection hv with h1
    rw [hA] at h1
    cases h1
theorem PR_erase (l : List Pr) (k : Nat) : PR (l.eraseIdx k) = (PR l).take (k * 2) ++ (PR l).drop (k * 2 + 2) := by
  induction l generalizing k with
  | nil => simp [PR]
  | cons p l ih =>
    cases k with
    | zero => simp [PR]
    | succ k =>
      have := ih k
      rw [List.eraseIdx_cons_succ]
      have e1 : (k + 1) * 2 = k * 2 + 1 + 1 := by omega
      have e2 : (k + 1) * 2 + 2 = (k * 2 + 2) + 1 + 1 := by omega
      rw [e2, e1]
      simp only [PR, List.flatMap_cons, List.cons_append, List.nil_append, List.take_succ_cons, List.drop_succ_cons] at this ⊢
      rw [this]
theorem cutL_hit {l : List Pr} {key : Int} (h : pairsB l = true) (hk : keyIx l key < l.length) : (cutL l key).length = l.length - 1 := by
  rw [cutL_erase key h, List.length_eraseIdx, if_pos hk]
theorem cutL_miss {l : List Pr} {key : Int} (hk : ¬ keyIx l key < l.length) : cutL l key = l := by
  refine cutL_all (fun p hp hpk => hk ?_)
  unfold keyIx
  exact List.findIdx_lt_length_of_exists ⟨p, hp, by simpa using hpk⟩
attribute [local go_sem] Ext.cell Ext.frozen

set_option maxRecDepth 100000 in
set_option maxHeartbeats 2000000 in
theorem cutOut_any (A : Option Addr) (n cap : Nat) (l : List Pr) (key : Int) (w : World) (hS : Sl w 2 A n (PR l)) (hl : l.length = n) (hn : n ≤ maxLen) (hA : A = none → n = 0 ∧ cap = 0) :
    Calls Tryz.prog 100 #[.slice A n cap, .int .i64 key] w (if pairsB l = true then RetRowB w 106 2 (cutL l key).length (PR (cutL l key)) (decide ((cutL l key).length < n)) else RetRowB w 106 2 0 [] false) := by
  have c1 := pairsOk_any A n cap l w hS hl hn
  by_cases hpa : pairsB l = true
  · have h10 : n ≤ 10 := by have := pairsB_len hpa; omega
    rw [if_pos hpa]
    rw [hpa] at c1
    by_cases hk : keyIx l key < l.length
    · have ha : keyAt l key = (keyIx l key : Int) := by unfold keyAt; rw [if_pos hk]
      have hc1 := cutL_hit hpa hk
      have hc2 := cutL_erase key hpa
      have HC := Lib.hid (And.intro hc1 hc2)
      obtain ⟨k, hkk⟩ : ∃ k, k = keyIx l key := ⟨_, rfl⟩
      have HK := Lib.hid hkk
      rw [← hkk] at ha hk
      have Ha := Lib.hid ha
      have HL := Lib.hid hl
      have HS := Lib.hid hS
      have hkn : k < n := by omega
      clear hc1 hc2 hkk ha hpa hl hS hk
      go_enter Tryz.func100, Tryz.ntmps100
      go_wp2_with fail
      refine c1.mono ?_
      rintro e w1 ⟨rfl, b1⟩
      have c2 := copyPairs_any A n cap l w1 (HS.out.below b1) HL.out (by omega) hA
      go_wp2_with fail
      refine c2.mono ?_
      rintro e w2 ⟨A2, cap2, rfl, R2, b2⟩
      have c3 := placePair_any A2 n cap2 l key w2 R2.sl HL.out (by unfold maxLen; omega)
      rw [Ha.out] at c3
      go_wp2_with fail
      refine c3.mono ?_
      rintro e w3 ⟨rfl, b3⟩
      have R3 := R2.below b3
      have hkn' : (k : Int) < (n : Int) := by omega
      go_wp2_with fail
      refine (deletePair_any w1.heap.size A2 n cap2 k (PR l) w3 R3 hkn).mono ?_
      rintro e w4 ⟨rfl, R4, b4⟩
      go_wp2
      refine bodyPost_ret (v := .tuple #[.slice A2 (n - 1) cap2, .bool true]) (by simp [results, Tryz.results100, go_sem, *]) rfl ?_
      rw [HC.out.2, ← HK.out, PR_erase]
      have e1 : (l.eraseIdx k).length = n - 1 := by rw [HK.out, ← HC.out.2, HC.out.1, HL.out]
      rw [e1, decide_eq_true (by omega)]
      refine ⟨A2, cap2, rfl, R4.mono b1.size, ?_⟩
      exact (bthen b1 (bthen b2 b3)).trans (b4.mono b1.size)
    · have ha : keyAt l key = -1 := by unfold keyAt; rw [if_neg hk]
      have HC := Lib.hid (cutL_miss hk)
      have Ha := Lib.hid ha
      have HL := Lib.hid hl
      have HS := Lib.hid hS
      clear ha hpa hl hS hk
      go_enter Tryz.func100, Tryz.ntmps100
      go_wp2_with fail
      refine c1.mono ?_
      rintro e w1 ⟨rfl, b1⟩
      have c2 := copyPairs_any A n cap l w1 (HS.out.below b1) HL.out (by omega) hA
      go_wp2_with fail
      refine c2.mono ?_
      rintro e w2 ⟨A2, cap2, rfl, R2, b2⟩
      have c3 := placePair_any A2 n cap2 l key w2 R2.sl HL.out (by unfold maxLen; omega)
      rw [Ha.out] at c3
      go_wp2_with fail
      refine c3.mono ?_
      rintro e w3 ⟨rfl, b3⟩
      have R3 := R2.below b3
      go_wp2
      refine bodyPost_ret (v := .tuple #[.slice A2 n cap2, .bool false]) (by simp [results, Tryz.results100, go_sem, *]) rfl ?_
      rw [HC.out, HL.out, decide_eq_false (by omega)]
      exact ⟨A2, cap2, rfl, R3.mono b1.size, bthen b1 (bthen b2 b3)⟩
  · have hpa' : pairsB l = false := by simpa using hpa
    rw [if_neg hpa]
    rw [hpa'] at c1
    go_enter Tryz.func100, Tryz.ntmps100
    go_wp2_with fail
    refine c1.mono ?_
    rintro e w1 ⟨rfl, b1⟩
    go_wp2
    refine bodyPost_ret (v := .tuple #[.slice none 0 0, .bool false]) (by simp [results, Tryz.results100, go_sem, *]) rfl ⟨_, _, rfl, Row.nil _ _ _ _, b1⟩

/-- Both results in one: what is left, and whether a pair was cut out. -/
def cutR (l : List Pr) (key : Int) : List Pr × Bool := if pairsB l = true then (cutL l key, decide ((cutL l key).length < l.length)) else ([], false)
theorem cutR_len (l : List Pr) (key : Int) : (cutR l key).1.length ≤ 10 := by
  unfold cutR
  split
  · rename_i h
    exact Nat.le_trans (cutL_le l key) (pairsB_len h)
  · simp
theorem cutOutR_any (A : Option Addr) (n cap : Nat) (l : List Pr) (key : Int) (w : World) (hS : Sl w 2 A n (PR l)) (hl : l.length = n) (hn : n ≤ maxLen) (hA : A = none → n = 0 ∧ cap = 0) :
    Calls Tryz.prog 100 #[.slice A n cap, .int .i64 key] w (RetRowB w 106 2 (cutR l key).1.length (PR (cutR l key).1) (cutR l key).2) := by
  have c := cutOut_any A n cap l key w hS hl hn hA
  unfold cutR
  subst hl
  split at c
  · rename_i h
    rw [if_pos h]
    exact c
  · rename_i h
    rw [if_neg h]
    exact c
theorem specCutOutR_any (A : Option Addr) (n cap : Nat) (l : List Pr) (key : Int) (w : World) (hS : Sl w 2 A n (PR l)) (hl : l.length = n) (hn : n ≤ maxLen) :
    Calls Tryz.prog 30 #[.slice A n cap, .int .i64 key] w (RetRowB w 106 2 (cutR l key).1.length (PR (cutR l key).1) (cutR l key).2) := by
  have c := specCutOut_any A n cap l key w hS hl hn
  unfold cutR
  subst hl
  split at c
  · rename_i h
    rw [if_pos h]
    exact c
  · rename_i h
    rw [if_neg h]
    exact c
end Go.Proofs.YtokklkmibjpjnaaGreat
namespace Go.Proofs.YtokklkmibjpjnaaGreat
set_option linter.unusedSimpArgs false
set_option linter.unusedVariables false
attribute [local go_sem] n_lt2 n_lt3 n_lt4 n_le2 n_le3
open Go.RowKit
attribute [local go_sem] Ext.cell Ext.frozen

theorem max_any (a b : Int) (w : World) : Calls Tryz.prog 70 #[.int .i64 a, .int .i64 b] w fun e w' => e = .returned (.int .i64 (max a b)) ∧ w = w' := by
  by_cases h : b < a
  · have hm : max a b = a := by omega
    rw [hm]; clear hm
    go_enter Tryz.func70, Tryz.ntmps70
    go_wp2
    go_ret
    exact ⟨rfl, rfl⟩
  · have hm : max a b = b := by omega
    rw [hm]; clear hm
    go_enter Tryz.func70, Tryz.ntmps70
    go_wp2
    go_ret
    exact ⟨rfl, rfl⟩

/-- What Granted hands back. -/
def RetGrant (w : World) (g : (Int × Int × Int) × Bool) (e : Ending) (w' : World) : Prop := e = .returned (.tuple #[.agg #[.int .i64 g.1.1, .int .i64 g.1.2.1, .int .i64 g.1.2.2], .bool g.2]) ∧ Below w.heap.size w w'

theorem lease_e {h e u : Int} (hl : leaseB h e u = true) : 0 ≤ e ∧ e ≤ 1000 ∧ 0 ≤ u ∧ u ≤ 1001000 := by
  unfold leaseB at hl
  simp only [Bool.or_eq_true, Bool.and_eq_true, decide_eq_true_eq, inB_iff] at hl
  omega

set_option maxHeartbeats 2000000 in
theorem specGranted_any (a e u who t long : Int) (w : World) :
    Calls Tryz.prog 35 #[.agg #[.int .i64 a, .int .i64 e, .int .i64 u], .int .i64 who, .int .i64 t, .int .i64 long] w (RetGrant w (grantL a e u who t long)) := by
  by_cases h1 : leaseB a e u = true
  · obtain ⟨b5, b6, b7, b8⟩ := lease_e h1
    by_cases h2 : (whoB who && (inB t 0 1000000 && inB long 1 1000)) = true
    · have h2' := h2
      simp only [Bool.and_eq_true] at h2'
      obtain ⟨e1, e2, e3⟩ := h2'
      obtain ⟨b1, b2⟩ := (inB_iff _ _ _).1 e2
      obtain ⟨b3, b4⟩ := (inB_iff _ _ _).1 e3
      by_cases h3 : a = who
      · have hv : grantL a e u who t long = ((a, e, max u (t + long)), true) := by unfold grantL; rw [if_pos h1, if_pos h2, if_pos h3]
        rw [hv]
        subst h3
        clear hv h2
        go_enter Tryz.func35, Tryz.ntmps35
        go_wp2_with (first | (go_at_call 64; refine (specLeaseOk_any _ _ _ _).mono ?_; rintro e w1 ⟨rfl, hb'⟩; (first | (have hb2 := bstep hb' hb hb.size; clear hb' hcb hfb hz1 hz2 hz3 hz4 hb; have hb := hb2; clear hb2) | (have hb := hb'; clear hb')); obtain ⟨hcb, hfb, hz1, hz2, hz3, hz4⟩ := bcell hb; (try simp only [World.size_alloc, World.size_setCell, World.size_drew, Nat.lt_add_one_iff, Nat.add_assoc, Nat.reduceAdd] at hz1 hz2 hz3 hz4); (have q0x0 := hcb w.heap.size 0 (by simp <;> omega)); (simp [go_sem] at q0x0); (have q0x1 := hcb w.heap.size 1 (by simp <;> omega)); (simp [go_sem] at q0x1); (have q0x2 := hcb w.heap.size 2 (by simp <;> omega)); (simp [go_sem] at q0x2); (have q1x0 := hcb (w.heap.size + 1) 0 (by simp <;> omega)); (simp [go_sem] at q1x0); (have q1x1 := hcb (w.heap.size + 1) 1 (by simp <;> omega)); (simp [go_sem] at q1x1); (have q1x2 := hcb (w.heap.size + 1) 2 (by simp <;> omega)); (simp [go_sem] at q1x2)) | (go_at_call 71; refine (specFreeAt_any _ _ _ _ _).mono ?_; rintro e w1 ⟨rfl, hb'⟩; (first | (have hb2 := bstep hb' hb hb.size; clear hb' hcb hfb hz1 hz2 hz3 hz4 hb; have hb := hb2; clear hb2) | (have hb := hb'; clear hb')); obtain ⟨hcb, hfb, hz1, hz2, hz3, hz4⟩ := bcell hb; (try simp only [World.size_alloc, World.size_setCell, World.size_drew, Nat.lt_add_one_iff, Nat.add_assoc, Nat.reduceAdd] at hz1 hz2 hz3 hz4); (have q0x0 := hcb w.heap.size 0 (by simp <;> omega)); (simp [go_sem] at q0x0); (have q0x1 := hcb w.heap.size 1 (by simp <;> omega)); (simp [go_sem] at q0x1); (have q0x2 := hcb w.heap.size 2 (by simp <;> omega)); (simp [go_sem] at q0x2); (have q1x0 := hcb (w.heap.size + 1) 0 (by simp <;> omega)); (simp [go_sem] at q1x0); (have q1x1 := hcb (w.heap.size + 1) 1 (by simp <;> omega)); (simp [go_sem] at q1x1); (have q1x2 := hcb (w.heap.size + 1) 2 (by simp <;> omega)); (simp [go_sem] at q1x2)) | (go_at_call 69; refine (l16Who_any _ _).mono ?_; rintro e w' ⟨rfl, rfl⟩) | (go_at_call 61; refine (l16Time_any _ _).mono ?_; rintro e w' ⟨rfl, rfl⟩) | (go_at_call 60; refine (l1In_any _ _ _ _).mono ?_; rintro e w' ⟨rfl, rfl⟩) | (go_at_call 70; refine (max_any _ _ _).mono ?_; rintro e w' ⟨rfl, rfl⟩))
        all_goals refine bodyPost_ret (v := .tuple #[.agg #[.int .i64 (a), .int .i64 (e), .int .i64 (max u (t + long))], .bool true]) (by simp [results, Tryz.results35, go_sem, *] <;> omega) rfl ⟨rfl, by (repeat' (first | (with_reducible exact Below.refl _ _) | (with_reducible assumption) | (with_reducible refine Below.alloc ?_ ?_ _) | (with_reducible refine Below.drew ?_) | (with_reducible refine Below.setCell ?_ ?_ _) | (with_reducible refine bstep (by assumption) ?_ ?_) | (with_reducible exact Nat.le_refl _) | omega | (simp [*]; done) | (simp [*]; omega)))⟩
      · have h3' : (a == who) = false := by simpa using h3
        by_cases h4 : (freeB a u t && decide (e < 1000)) = true
        · have hv : grantL a e u who t long = ((who, e + 1, t + long), true) := by unfold grantL; rw [if_pos h1, if_pos h2, if_neg h3, if_pos h4]
          rw [hv]
          simp only [Bool.and_eq_true, decide_eq_true_eq] at h4
          obtain ⟨h4, h5⟩ := h4
          have h6 : freeAtB a e u t = true := by unfold freeAtB; simp [*]
          clear hv h2 h3
          go_enter Tryz.func35, Tryz.ntmps35
          go_wp2_with (first | (go_at_call 64; refine (specLeaseOk_any _ _ _ _).mono ?_; rintro e w1 ⟨rfl, hb'⟩; (first | (have hb2 := bstep hb' hb hb.size; clear hb' hcb hfb hz1 hz2 hz3 hz4 hb; have hb := hb2; clear hb2) | (have hb := hb'; clear hb')); obtain ⟨hcb, hfb, hz1, hz2, hz3, hz4⟩ := bcell hb; (try simp only [World.size_alloc, World.size_setCell, World.size_drew, Nat.lt_add_one_iff, Nat.add_assoc, Nat.reduceAdd] at hz1 hz2 hz3 hz4); (have q0x0 := hcb w.heap.size 0 (by simp <;> omega)); (simp [go_sem] at q0x0); (have q0x1 := hcb w.heap.size 1 (by simp <;> omega)); (simp [go_sem] at q0x1); (have q0x2 := hcb w.heap.size 2 (by simp <;> omega)); (simp [go_sem] at q0x2); (have q1x0 := hcb (w.heap.size + 1) 0 (by simp <;> omega)); (simp [go_sem] at q1x0); (have q1x1 := hcb (w.heap.size + 1) 1 (by simp <;> omega)); (simp [go_sem] at q1x1); (have q1x2 := hcb (w.heap.size + 1) 2 (by simp <;> omega)); (simp [go_sem] at q1x2)) | (go_at_call 71; refine (specFreeAt_any _ _ _ _ _).mono ?_; rintro e w1 ⟨rfl, hb'⟩; (first | (have hb2 := bstep hb' hb hb.size; clear hb' hcb hfb hz1 hz2 hz3 hz4 hb; have hb := hb2; clear hb2) | (have hb := hb'; clear hb')); obtain ⟨hcb, hfb, hz1, hz2, hz3, hz4⟩ := bcell hb; (try simp only [World.size_alloc, World.size_setCell, World.size_drew, Nat.lt_add_one_iff, Nat.add_assoc, Nat.reduceAdd] at hz1 hz2 hz3 hz4); (have q0x0 := hcb w.heap.size 0 (by simp <;> omega)); (simp [go_sem] at q0x0); (have q0x1 := hcb w.heap.size 1 (by simp <;> omega)); (simp [go_sem] at q0x1); (have q0x2 := hcb w.heap.size 2 (by simp <;> omega)); (simp [go_sem] at q0x2); (have q1x0 := hcb (w.heap.size + 1) 0 (by simp <;> omega)); (simp [go_sem] at q1x0); (have q1x1 := hcb (w.heap.size + 1) 1 (by simp <;> omega)); (simp [go_sem] at q1x1); (have q1x2 := hcb (w.heap.size + 1) 2 (by simp <;> omega)); (simp [go_sem] at q1x2)) | (go_at_call 69; refine (l16Who_any _ _).mono ?_; rintro e w' ⟨rfl, rfl⟩) | (go_at_call 61; refine (l16Time_any _ _).mono ?_; rintro e w' ⟨rfl, rfl⟩) | (go_at_call 60; refine (l1In_any _ _ _ _).mono ?_; rintro e w' ⟨rfl, rfl⟩) | (go_at_call 70; refine (max_any _ _ _).mono ?_; rintro e w' ⟨rfl, rfl⟩))
          all_goals refine bodyPost_ret (v := .tuple #[.agg #[.int .i64 (who), .int .i64 (e + 1), .int .i64 (t + long)], .bool true]) (by simp [results, Tryz.results35, go_sem, *] <;> omega) rfl ⟨rfl, by (repeat' (first | (with_reducible exact Below.refl _ _) | (with_reducible assumption) | (with_reducible refine Below.alloc ?_ ?_ _) | (with_reducible refine Below.drew ?_) | (with_reducible refine Below.setCell ?_ ?_ _) | (with_reducible refine bstep (by assumption) ?_ ?_) | (with_reducible exact Nat.le_refl _) | omega | (simp [*]; done) | (simp [*]; omega)))⟩
        · have hv : grantL a e u who t long = ((a, e, u), false) := by unfold grantL; rw [if_pos h1, if_pos h2, if_neg h3, if_neg h4]
          rw [hv]
          clear hv h2 h3
          rcases (show freeB a u t = false ∨ (freeB a u t = true ∧ 1000 ≤ e) by
            cases hf : freeB a u t with
            | false => exact .inl rfl
            | true => rw [hf] at h4; simp at h4; exact .inr ⟨rfl, h4⟩) with h6 | ⟨h6, h7⟩
          · have h8 : freeAtB a e u t = false := by unfold freeAtB; simp [*]
            clear h4
            go_enter Tryz.func35, Tryz.ntmps35
            go_wp2_with (first | (go_at_call 64; refine (specLeaseOk_any _ _ _ _).mono ?_; rintro e w1 ⟨rfl, hb'⟩; (first | (have hb2 := bstep hb' hb hb.size; clear hb' hcb hfb hz1 hz2 hz3 hz4 hb; have hb := hb2; clear hb2) | (have hb := hb'; clear hb')); obtain ⟨hcb, hfb, hz1, hz2, hz3, hz4⟩ := bcell hb; (try simp only [World.size_alloc, World.size_setCell, World.size_drew, Nat.lt_add_one_iff, Nat.add_assoc, Nat.reduceAdd] at hz1 hz2 hz3 hz4); (have q0x0 := hcb w.heap.size 0 (by simp <;> omega)); (simp [go_sem] at q0x0); (have q0x1 := hcb w.heap.size 1 (by simp <;> omega)); (simp [go_sem] at q0x1); (have q0x2 := hcb w.heap.size 2 (by simp <;> omega)); (simp [go_sem] at q0x2); (have q1x0 := hcb (w.heap.size + 1) 0 (by simp <;> omega)); (simp [go_sem] at q1x0); (have q1x1 := hcb (w.heap.size + 1) 1 (by simp <;> omega)); (simp [go_sem] at q1x1); (have q1x2 := hcb (w.heap.size + 1) 2 (by simp <;> omega)); (simp [go_sem] at q1x2)) | (go_at_call 71; refine (specFreeAt_any _ _ _ _ _).mono ?_; rintro e w1 ⟨rfl, hb'⟩; (first | (have hb2 := bstep hb' hb hb.size; clear hb' hcb hfb hz1 hz2 hz3 hz4 hb; have hb := hb2; clear hb2) | (have hb := hb'; clear hb')); obtain ⟨hcb, hfb, hz1, hz2, hz3, hz4⟩ := bcell hb; (try simp only [World.size_alloc, World.size_setCell, World.size_drew, Nat.lt_add_one_iff, Nat.add_assoc, Nat.reduceAdd] at hz1 hz2 hz3 hz4); (have q0x0 := hcb w.heap.size 0 (by simp <;> omega)); (simp [go_sem] at q0x0); (have q0x1 := hcb w.heap.size 1 (by simp <;> omega)); (simp [go_sem] at q0x1); (have q0x2 := hcb w.heap.size 2 (by simp <;> omega)); (simp [go_sem] at q0x2); (have q1x0 := hcb (w.heap.size + 1) 0 (by simp <;> omega)); (simp [go_sem] at q1x0); (have q1x1 := hcb (w.heap.size + 1) 1 (by simp <;> omega)); (simp [go_sem] at q1x1); (have q1x2 := hcb (w.heap.size + 1) 2 (by simp <;> omega)); (simp [go_sem] at q1x2)) | (go_at_call 69; refine (l16Who_any _ _).mono ?_; rintro e w' ⟨rfl, rfl⟩) | (go_at_call 61; refine (l16Time_any _ _).mono ?_; rintro e w' ⟨rfl, rfl⟩) | (go_at_call 60; refine (l1In_any _ _ _ _).mono ?_; rintro e w' ⟨rfl, rfl⟩) | (go_at_call 70; refine (max_any _ _ _).mono ?_; rintro e w' ⟨rfl, rfl⟩))
            all_goals refine bodyPost_ret (v := .tuple #[.agg #[.int .i64 (a), .int .i64 (e), .int .i64 (u)], .bool false]) (by simp [results, Tryz.results35, go_sem, *] <;> omega) rfl ⟨rfl, by (repeat' (first | (with_reducible exact Below.refl _ _) | (with_reducible assumption) | (with_reducible refine Below.alloc ?_ ?_ _) | (with_reducible refine Below.drew ?_) | (with_reducible refine Below.setCell ?_ ?_ _) | (with_reducible refine bstep (by assumption) ?_ ?_) | (with_reducible exact Nat.le_refl _) | omega | (simp [*]; done) | (simp [*]; omega)))⟩
          · have h8 : freeAtB a e u t = true := by unfold freeAtB; simp [*]
            clear h4
            go_enter Tryz.func35, Tryz.ntmps35
            go_wp2_with (first | (go_at_call 64; refine (specLeaseOk_any _ _ _ _).mono ?_; rintro e w1 ⟨rfl, hb'⟩; (first | (have hb2 := bstep hb' hb hb.size; clear hb' hcb hfb hz1 hz2 hz3 hz4 hb; have hb := hb2; clear hb2) | (have hb := hb'; clear hb')); obtain ⟨hcb, hfb, hz1, hz2, hz3, hz4⟩ := bcell hb; (try simp only [World.size_alloc, World.size_setCell, World.size_drew, Nat.lt_add_one_iff, Nat.add_assoc, Nat.reduceAdd] at hz1 hz2 hz3 hz4); (have q0x0 := hcb w.heap.size 0 (by simp <;> omega)); (simp [go_sem] at q0x0); (have q0x1 := hcb w.heap.size 1 (by simp <;> omega)); (simp [go_sem] at q0x1); (have q0x2 := hcb w.heap.size 2 (by simp <;> omega)); (simp [go_sem] at q0x2); (have q1x0 := hcb (w.heap.size + 1) 0 (by simp <;> omega)); (simp [go_sem] at q1x0); (have q1x1 := hcb (w.heap.size + 1) 1 (by simp <;> omega)); (simp [go_sem] at q1x1); (have q1x2 := hcb (w.heap.size + 1) 2 (by simp <;> omega)); (simp [go_sem] at q1x2)) | (go_at_call 71; refine (specFreeAt_any _ _ _ _ _).mono ?_; rintro e w1 ⟨rfl, hb'⟩; (first | (have hb2 := bstep hb' hb hb.size; clear hb' hcb hfb hz1 hz2 hz3 hz4 hb; have hb := hb2; clear hb2) | (have hb := hb'; clear hb')); obtain ⟨hcb, hfb, hz1, hz2, hz3, hz4⟩ := bcell hb; (try simp only [World.size_alloc, World.size_setCell, World.size_drew, Nat.lt_add_one_iff, Nat.add_assoc, Nat.reduceAdd] at hz1 hz2 hz3 hz4); (have q0x0 := hcb w.heap.size 0 (by simp <;> omega)); (simp [go_sem] at q0x0); (have q0x1 := hcb w.heap.size 1 (by simp <;> omega)); (simp [go_sem] at q0x1); (have q0x2 := hcb w.heap.size 2 (by simp <;> omega)); (simp [go_sem] at q0x2); (have q1x0 := hcb (w.heap.size + 1) 0 (by simp <;> omega)); (simp [go_sem] at q1x0); (have q1x1 := hcb (w.heap.size + 1) 1 (by simp <;> omega)); (simp [go_sem] at q1x1); (have q1x2 := hcb (w.heap.size + 1) 2 (by simp <;> omega)); (simp [go_sem] at q1x2)) | (go_at_call 69; refine (l16Who_any _ _).mono ?_; rintro e w' ⟨rfl, rfl⟩) | (go_at_call 61; refine (l16Time_any _ _).mono ?_; rintro e w' ⟨rfl, rfl⟩) | (go_at_call 60; refine (l1In_any _ _ _ _).mono ?_; rintro e w' ⟨rfl, rfl⟩) | (go_at_call 70; refine (max_any _ _ _).mono ?_; rintro e w' ⟨rfl, rfl⟩))
            all_goals refine bodyPost_ret (v := .tuple #[.agg #[.int .i64 (a), .int .i64 (e), .int .i64 (u)], .bool false]) (by simp [results, Tryz.results35, go_sem, *] <;> omega) rfl ⟨rfl, by (repeat' (first | (with_reducible exact Below.refl _ _) | (with_reducible assumption) | (with_reducible refine Below.alloc ?_ ?_ _) | (with_reducible refine Below.drew ?_) | (with_reducible refine Below.setCell ?_ ?_ _) | (with_reducible refine bstep (by assumption) ?_ ?_) | (with_reducible exact Nat.le_refl _) | omega | (simp [*]; done) | (simp [*]; omega)))⟩
    · have hv : grantL a e u who t long = ((a, e, u), false) := by unfold grantL; rw [if_pos h1, if_neg h2]
      rw [hv]
      clear hv
      rcases (show whoB who = false ∨ (whoB who = true ∧ inB t 0 1000000 = false) ∨ (whoB who = true ∧ inB t 0 1000000 = true ∧ inB long 1 1000 = false) by
        cases hf : whoB who with
        | false => exact .inl rfl
        | true =>
          cases hg : inB t 0 1000000 with
          | false => exact .inr (.inl ⟨rfl, rfl⟩)
          | true => rw [hf, hg] at h2; simp at h2; exact .inr (.inr ⟨rfl, rfl, h2⟩)) with h6 | ⟨h6, h7⟩ | ⟨h6, h7, h8⟩
      all_goals clear h2
      all_goals go_enter Tryz.func35, Tryz.ntmps35
      all_goals go_wp2_with (first | (go_at_call 64; refine (specLeaseOk_any _ _ _ _).mono ?_; rintro e w1 ⟨rfl, hb'⟩; (first | (have hb2 := bstep hb' hb hb.size; clear hb' hcb hfb hz1 hz2 hz3 hz4 hb; have hb := hb2; clear hb2) | (have hb := hb'; clear hb')); obtain ⟨hcb, hfb, hz1, hz2, hz3, hz4⟩ := bcell hb; (try simp only [World.size_alloc, World.size_setCell, World.size_drew, Nat.lt_add_one_iff, Nat.add_assoc, Nat.reduceAdd] at hz1 hz2 hz3 hz4); (have q0x0 := hcb w.heap.size 0 (by simp <;> omega)); (simp [go_sem] at q0x0); (have q0x1 := hcb w.heap.size 1 (by simp <;> omega)); (simp [go_sem] at q0x1); (have q0x2 := hcb w.heap.size 2 (by simp <;> omega)); (simp [go_sem] at q0x2); (have q1x0 := hcb (w.heap.size + 1) 0 (by simp <;> omega)); (simp [go_sem] at q1x0); (have q1x1 := hcb (w.heap.size + 1) 1 (by simp <;> omega)); (simp [go_sem] at q1x1); (have q1x2 := hcb (w.heap.size + 1) 2 (by simp <;> omega)); (simp [go_sem] at q1x2)) | (go_at_call 71; refine (specFreeAt_any _ _ _ _ _).mono ?_; rintro e w1 ⟨rfl, hb'⟩; (first | (have hb2 := bstep hb' hb hb.size; clear hb' hcb hfb hz1 hz2 hz3 hz4 hb; have hb := hb2; clear hb2) | (have hb := hb'; clear hb')); obtain ⟨hcb, hfb, hz1, hz2, hz3, hz4⟩ := bcell hb; (try simp only [World.size_alloc, World.size_setCell, World.size_drew, Nat.lt_add_one_iff, Nat.add_assoc, Nat.reduceAdd] at hz1 hz2 hz3 hz4); (have q0x0 := hcb w.heap.size 0 (by simp <;> omega)); (simp [go_sem] at q0x0); (have q0x1 := hcb w.heap.size 1 (by simp <;> omega)); (simp [go_sem] at q0x1); (have q0x2 := hcb w.heap.size 2 (by simp <;> omega)); (simp [go_sem] at q0x2); (have q1x0 := hcb (w.heap.size + 1) 0 (by simp <;> omega)); (simp [go_sem] at q1x0); (have q1x1 := hcb (w.heap.size + 1) 1 (by simp <;> omega)); (simp [go_sem] at q1x1); (have q1x2 := hcb (w.heap.size + 1) 2 (by simp <;> omega)); (simp [go_sem] at q1x2)) | (go_at_call 69; refine (l16Who_any _ _).mono ?_; rintro e w' ⟨rfl, rfl⟩) | (go_at_call 61; refine (l16Time_any _ _).mono ?_; rintro e w' ⟨rfl, rfl⟩) | (go_at_call 60; refine (l1In_any _ _ _ _).mono ?_; rintro e w' ⟨rfl, rfl⟩) | (go_at_call 70; refine (max_any _ _ _).mono ?_; rintro e w' ⟨rfl, rfl⟩))
      all_goals refine bodyPost_ret (v := .tuple #[.agg #[.int .i64 (a), .int .i64 (e), .int .i64 (u)], .bool false]) (by simp [results, Tryz.results35, go_sem, *] <;> omega) rfl ⟨rfl, by (repeat' (first | (with_reducible exact Below.refl _ _) | (with_reducible assumption) | (with_reducible refine Below.alloc ?_ ?_ _) | (with_reducible refine Below.drew ?_) | (with_reducible refine Below.setCell ?_ ?_ _) | (with_reducible refine bstep (by assumption) ?_ ?_) | (with_reducible exact Nat.le_refl _) | omega | (simp [*]; done) | (simp [*]; omega)))⟩
  · have hv : grantL a e u who t long = ((0, 0, 0), false) := by unfold grantL; rw [if_neg h1]
    rw [hv]
    have h1' : leaseB a e u = false := by simpa using h1
    clear hv h1
    go_enter Tryz.func35, Tryz.ntmps35
    go_wp2_with (first | (go_at_call 64; refine (specLeaseOk_any _ _ _ _).mono ?_; rintro e w1 ⟨rfl, hb'⟩; (first | (have hb2 := bstep hb' hb hb.size; clear hb' hcb hfb hz1 hz2 hz3 hz4 hb; have hb := hb2; clear hb2) | (have hb := hb'; clear hb')); obtain ⟨hcb, hfb, hz1, hz2, hz3, hz4⟩ := bcell hb; (try simp only [World.size_alloc, World.size_setCell, World.size_drew, Nat.lt_add_one_iff, Nat.add_assoc, Nat.reduceAdd] at hz1 hz2 hz3 hz4); (have q0x0 := hcb w.heap.size 0 (by simp <;> omega)); (simp [go_sem] at q0x0); (have q0x1 := hcb w.heap.size 1 (by simp <;> omega)); (simp [go_sem] at q0x1); (have q0x2 := hcb w.heap.size 2 (by simp <;> omega)); (simp [go_sem] at q0x2); (have q1x0 := hcb (w.heap.size + 1) 0 (by simp <;> omega)); (simp [go_sem] at q1x0); (have q1x1 := hcb (w.heap.size + 1) 1 (by simp <;> omega)); (simp [go_sem] at q1x1); (have q1x2 := hcb (w.heap.size + 1) 2 (by simp <;> omega)); (simp [go_sem] at q1x2)) | (go_at_call 71; refine (specFreeAt_any _ _ _ _ _).mono ?_; rintro e w1 ⟨rfl, hb'⟩; (first | (have hb2 := bstep hb' hb hb.size; clear hb' hcb hfb hz1 hz2 hz3 hz4 hb; have hb := hb2; clear hb2) | (have hb := hb'; clear hb')); obtain ⟨hcb, hfb, hz1, hz2, hz3, hz4⟩ := bcell hb; (try simp only [World.size_alloc, World.size_setCell, World.size_drew, Nat.lt_add_one_iff, Nat.add_assoc, Nat.reduceAdd] at hz1 hz2 hz3 hz4); (have q0x0 := hcb w.heap.size 0 (by simp <;> omega)); (simp [go_sem] at q0x0); (have q0x1 := hcb w.heap.size 1 (by simp <;> omega)); (simp [go_sem] at q0x1); (have q0x2 := hcb w.heap.size 2 (by simp <;> omega)); (simp [go_sem] at q0x2); (have q1x0 := hcb (w.heap.size + 1) 0 (by simp <;> omega)); (simp [go_sem] at q1x0); (have q1x1 := hcb (w.heap.size + 1) 1 (by simp <;> omega)); (simp [go_sem] at q1x1); (have q1x2 := hcb (w.heap.size + 1) 2 (by simp <;> omega)); (simp [go_sem] at q1x2)) | (go_at_call 69; refine (l16Who_any _ _).mono ?_; rintro e w' ⟨rfl, rfl⟩) | (go_at_call 61; refine (l16Time_any _ _).mono ?_; rintro e w' ⟨rfl, rfl⟩) | (go_at_call 60; refine (l1In_any _ _ _ _).mono ?_; rintro e w' ⟨rfl, rfl⟩) | (go_at_call 70; refine (max_any _ _ _).mono ?_; rintro e w' ⟨rfl, rfl⟩))
    all_goals refine bodyPost_ret (v := .tuple #[.agg #[.int .i64 (0), .int .i64 (0), .int .i64 (0)], .bool false]) (by simp [results, Tryz.results35, go_sem, *] <;> omega) rfl ⟨rfl, by (repeat' (first | (with_reducible exact Below.refl _ _) | (with_reducible assumption) | (with_reducible refine Below.alloc ?_ ?_ _) | (with_reducible refine Below.drew ?_) | (with_reducible refine Below.setCell ?_ ?_ _) | (with_reducible refine bstep (by assumption) ?_ ?_) | (with_reducible exact Nat.le_refl _) | omega | (simp [*]; done) | (simp [*]; omega)))⟩
set_option maxHeartbeats 2000000 in
theorem Granted_any (a e u who t long : Int) (w : World) :
    Calls Tryz.prog 108 #[.agg #[.int .i64 a, .int .i64 e, .int .i64 u], .int .i64 who, .int .i64 t, .int .i64 long] w (RetGrant w (grantL a e u who t long)) := by
  by_cases h1 : leaseB a e u = true
  · obtain ⟨b5, b6, b7, b8⟩ := lease_e h1
    by_cases h2 : (whoB who && (inB t 0 1000000 && inB long 1 1000)) = true
    · have h2' := h2
      simp only [Bool.and_eq_true] at h2'
      obtain ⟨e1, e2, e3⟩ := h2'
      obtain ⟨b1, b2⟩ := (inB_iff _ _ _).1 e2
      obtain ⟨b3, b4⟩ := (inB_iff _ _ _).1 e3
      by_cases h3 : a = who
      · have hv : grantL a e u who t long = ((a, e, max u (t + long)), true) := by unfold grantL; rw [if_pos h1, if_pos h2, if_pos h3]
        rw [hv]
        subst h3
        clear hv h2
        go_enter Tryz.func108, Tryz.ntmps108
        go_wp2_with (first | (go_at_call 78; refine (leaseOk_any _ _ _ _).mono ?_; rintro e w1 ⟨rfl, hb'⟩; (first | (have hb2 := bstep hb' hb hb.size; clear hb' hcb hfb hz1 hz2 hz3 hz4 hb; have hb := hb2; clear hb2) | (have hb := hb'; clear hb')); obtain ⟨hcb, hfb, hz1, hz2, hz3, hz4⟩ := bcell hb; (try simp only [World.size_alloc, World.size_setCell, World.size_drew, Nat.lt_add_one_iff, Nat.add_assoc, Nat.reduceAdd] at hz1 hz2 hz3 hz4); (have q0x0 := hcb w.heap.size 0 (by simp <;> omega)); (simp [go_sem] at q0x0); (have q0x1 := hcb w.heap.size 1 (by simp <;> omega)); (simp [go_sem] at q0x1); (have q0x2 := hcb w.heap.size 2 (by simp <;> omega)); (simp [go_sem] at q0x2); (have q1x0 := hcb (w.heap.size + 1) 0 (by simp <;> omega)); (simp [go_sem] at q1x0); (have q1x1 := hcb (w.heap.size + 1) 1 (by simp <;> omega)); (simp [go_sem] at q1x1); (have q1x2 := hcb (w.heap.size + 1) 2 (by simp <;> omega)); (simp [go_sem] at q1x2)) | (go_at_call 137; refine (freeAt_any _ _ _ _ _).mono ?_; rintro e w2 ⟨rfl, hb2⟩; obtain ⟨hcb2, hfb2, hy1, hy2, hy3, hy4⟩ := bcell hb2; (have p0 := hcb2 w1.heap.size 0 (by simp)); (simp [go_sem] at p0); (have p1 := hcb2 w1.heap.size 1 (by simp)); (simp [go_sem] at p1); (have p2 := hcb2 w1.heap.size 2 (by simp)); (simp [go_sem] at p2); (have hsz : w.heap.size + 1 < w1.heap.size := hz1 _ (by simp <;> omega)); (have r0 := hcb2 (w.heap.size + 1) 0 (by simp; omega)); (simp [go_sem, hsz, q1x0] at r0); (have r1 := hcb2 (w.heap.size + 1) 1 (by simp; omega)); (simp [go_sem, hsz, q1x1] at r1); (have r2 := hcb2 (w.heap.size + 1) 2 (by simp; omega)); (simp [go_sem, hsz, q1x2] at r2); (have f1 := hfb2 w1.heap.size 0 (by simp)); (have hsz2 : w1.heap.size < w2.heap.size := hy1 _ (by simp))) | (go_at_call 92; refine (schedOk_any _ _).mono ?_; rintro e w' ⟨rfl, rfl⟩) | (go_at_call 75; refine (timeOk_any _ _).mono ?_; rintro e w' ⟨rfl, rfl⟩) | (go_at_call 74; refine (between_any _ _ _ _).mono ?_; rintro e w' ⟨rfl, rfl⟩) | (go_at_call 125; go_in))
        all_goals refine bodyPost_ret (v := .tuple #[.agg #[.int .i64 (a), .int .i64 (e), .int .i64 (max u (t + long))], .bool true]) (by simp [results, Tryz.results108, go_sem, *] <;> omega) rfl ⟨rfl, by (repeat' (first | (with_reducible exact Below.refl _ _) | (with_reducible assumption) | (with_reducible refine Below.alloc ?_ ?_ _) | (with_reducible refine Below.drew ?_) | (with_reducible refine Below.setCell ?_ ?_ _) | (with_reducible refine bstep (by assumption) ?_ ?_) | (with_reducible exact Nat.le_refl _) | omega | (simp [*]; done) | (simp [*]; omega)))⟩
      · have h3' : (a == who) = false := by simpa using h3
        by_cases h4 : (freeB a u t && decide (e < 1000)) = true
        · have hv : grantL a e u who t long = ((who, e + 1, t + long), true) := by unfold grantL; rw [if_pos h1, if_pos h2, if_neg h3, if_pos h4]
          rw [hv]
          simp only [Bool.and_eq_true, decide_eq_true_eq] at h4
          obtain ⟨h4, h5⟩ := h4
          have h9 := h4
          clear hv h2 h3
          go_enter Tryz.func108, Tryz.ntmps108
          go_wp2_with (first | (go_at_call 78; refine (leaseOk_any _ _ _ _).mono ?_; rintro e w1 ⟨rfl, hb'⟩; (first | (have hb2 := bstep hb' hb hb.size; clear hb' hcb hfb hz1 hz2 hz3 hz4 hb; have hb := hb2; clear hb2) | (have hb := hb'; clear hb')); obtain ⟨hcb, hfb, hz1, hz2, hz3, hz4⟩ := bcell hb; (try simp only [World.size_alloc, World.size_setCell, World.size_drew, Nat.lt_add_one_iff, Nat.add_assoc, Nat.reduceAdd] at hz1 hz2 hz3 hz4); (have q0x0 := hcb w.heap.size 0 (by simp <;> omega)); (simp [go_sem] at q0x0); (have q0x1 := hcb w.heap.size 1 (by simp <;> omega)); (simp [go_sem] at q0x1); (have q0x2 := hcb w.heap.size 2 (by simp <;> omega)); (simp [go_sem] at q0x2); (have q1x0 := hcb (w.heap.size + 1) 0 (by simp <;> omega)); (simp [go_sem] at q1x0); (have q1x1 := hcb (w.heap.size + 1) 1 (by simp <;> omega)); (simp [go_sem] at q1x1); (have q1x2 := hcb (w.heap.size + 1) 2 (by simp <;> omega)); (simp [go_sem] at q1x2)) | (go_at_call 137; refine (freeAt_any _ _ _ _ _).mono ?_; rintro e w2 ⟨rfl, hb2⟩; obtain ⟨hcb2, hfb2, hy1, hy2, hy3, hy4⟩ := bcell hb2; (have p0 := hcb2 w1.heap.size 0 (by simp)); (simp [go_sem] at p0); (have p1 := hcb2 w1.heap.size 1 (by simp)); (simp [go_sem] at p1); (have p2 := hcb2 w1.heap.size 2 (by simp)); (simp [go_sem] at p2); (have hsz : w.heap.size + 1 < w1.heap.size := hz1 _ (by simp <;> omega)); (have r0 := hcb2 (w.heap.size + 1) 0 (by simp; omega)); (simp [go_sem, hsz, q1x0] at r0); (have r1 := hcb2 (w.heap.size + 1) 1 (by simp; omega)); (simp [go_sem, hsz, q1x1] at r1); (have r2 := hcb2 (w.heap.size + 1) 2 (by simp; omega)); (simp [go_sem, hsz, q1x2] at r2); (have f1 := hfb2 w1.heap.size 0 (by simp)); (have hsz2 : w1.heap.size < w2.heap.size := hy1 _ (by simp))) | (go_at_call 92; refine (schedOk_any _ _).mono ?_; rintro e w' ⟨rfl, rfl⟩) | (go_at_call 75; refine (timeOk_any _ _).mono ?_; rintro e w' ⟨rfl, rfl⟩) | (go_at_call 74; refine (between_any _ _ _ _).mono ?_; rintro e w' ⟨rfl, rfl⟩) | (go_at_call 125; go_in))
          all_goals refine bodyPost_ret (v := .tuple #[.agg #[.int .i64 (who), .int .i64 (e + 1), .int .i64 (t + long)], .bool true]) (by simp [results, Tryz.results108, go_sem, *] <;> omega) rfl ⟨rfl, by (repeat' (first | (with_reducible exact Below.refl _ _) | (with_reducible assumption) | (with_reducible refine Below.alloc ?_ ?_ _) | (with_reducible refine Below.drew ?_) | (with_reducible refine Below.setCell ?_ ?_ _) | (with_reducible refine bstep (by assumption) ?_ ?_) | (with_reducible exact Nat.le_refl _) | omega | (simp [*]; done) | (simp [*]; omega)))⟩
        · have hv : grantL a e u who t long = ((a, e, u), false) := by unfold grantL; rw [if_pos h1, if_pos h2, if_neg h3, if_neg h4]
          rw [hv]
          clear hv h2 h3
          rcases (show freeB a u t = false ∨ (freeB a u t = true ∧ 1000 ≤ e) by
            cases hf : freeB a u t with
            | false => exact .inl rfl
            | true => rw [hf] at h4; simp at h4; exact .inr ⟨rfl, h4⟩) with h6 | ⟨h6, h7⟩
          · have h9 := h6
            clear h4
            go_enter Tryz.func108, Tryz.ntmps108
            go_wp2_with (first | (go_at_call 78; refine (leaseOk_any _ _ _ _).mono ?_; rintro e w1 ⟨rfl, hb'⟩; (first | (have hb2 := bstep hb' hb hb.size; clear hb' hcb hfb hz1 hz2 hz3 hz4 hb; have hb := hb2; clear hb2) | (have hb := hb'; clear hb')); obtain ⟨hcb, hfb, hz1, hz2, hz3, hz4⟩ := bcell hb; (try simp only [World.size_alloc, World.size_setCell, World.size_drew, Nat.lt_add_one_iff, Nat.add_assoc, Nat.reduceAdd] at hz1 hz2 hz3 hz4); (have q0x0 := hcb w.heap.size 0 (by simp <;> omega)); (simp [go_sem] at q0x0); (have q0x1 := hcb w.heap.size 1 (by simp <;> omega)); (simp [go_sem] at q0x1); (have q0x2 := hcb w.heap.size 2 (by simp <;> omega)); (simp [go_sem] at q0x2); (have q1x0 := hcb (w.heap.size + 1) 0 (by simp <;> omega)); (simp [go_sem] at q1x0); (have q1x1 := hcb (w.heap.size + 1) 1 (by simp <;> omega)); (simp [go_sem] at q1x1); (have q1x2 := hcb (w.heap.size + 1) 2 (by simp <;> omega)); (simp [go_sem] at q1x2)) | (go_at_call 137; refine (freeAt_any _ _ _ _ _).mono ?_; rintro e w2 ⟨rfl, hb2⟩; obtain ⟨hcb2, hfb2, hy1, hy2, hy3, hy4⟩ := bcell hb2; (have p0 := hcb2 w1.heap.size 0 (by simp)); (simp [go_sem] at p0); (have p1 := hcb2 w1.heap.size 1 (by simp)); (simp [go_sem] at p1); (have p2 := hcb2 w1.heap.size 2 (by simp)); (simp [go_sem] at p2); (have hsz : w.heap.size + 1 < w1.heap.size := hz1 _ (by simp <;> omega)); (have r0 := hcb2 (w.heap.size + 1) 0 (by simp; omega)); (simp [go_sem, hsz, q1x0] at r0); (have r1 := hcb2 (w.heap.size + 1) 1 (by simp; omega)); (simp [go_sem, hsz, q1x1] at r1); (have r2 := hcb2 (w.heap.size + 1) 2 (by simp; omega)); (simp [go_sem, hsz, q1x2] at r2); (have f1 := hfb2 w1.heap.size 0 (by simp)); (have hsz2 : w1.heap.size < w2.heap.size := hy1 _ (by simp))) | (go_at_call 92; refine (schedOk_any _ _).mono ?_; rintro e w' ⟨rfl, rfl⟩) | (go_at_call 75; refine (timeOk_any _ _).mono ?_; rintro e w' ⟨rfl, rfl⟩) | (go_at_call 74; refine (between_any _ _ _ _).mono ?_; rintro e w' ⟨rfl, rfl⟩) | (go_at_call 125; go_in))
            all_goals refine bodyPost_ret (v := .tuple #[.agg #[.int .i64 (a), .int .i64 (e), .int .i64 (u)], .bool false]) (by simp [results, Tryz.results108, go_sem, *] <;> omega) rfl ⟨rfl, by (repeat' (first | (with_reducible exact Below.refl _ _) | (with_reducible assumption) | (with_reducible refine Below.alloc ?_ ?_ _) | (with_reducible refine Below.drew ?_) | (with_reducible refine Below.setCell ?_ ?_ _) | (with_reducible refine bstep (by assumption) ?_ ?_) | (with_reducible exact Nat.le_refl _) | omega | (simp [*]; done) | (simp [*]; omega)))⟩
          · have h9 := h6
            clear h4
            go_enter Tryz.func108, Tryz.ntmps108
            go_wp2_with (first | (go_at_call 78; refine (leaseOk_any _ _ _ _).mono ?_; rintro e w1 ⟨rfl, hb'⟩; (first | (have hb2 := bstep hb' hb hb.size; clear hb' hcb hfb hz1 hz2 hz3 hz4 hb; have hb := hb2; clear hb2) | (have hb := hb'; clear hb')); obtain ⟨hcb, hfb, hz1, hz2, hz3, hz4⟩ := bcell hb; (try simp only [World.size_alloc, World.size_setCell, World.size_drew, Nat.lt_add_one_iff, Nat.add_assoc, Nat.reduceAdd] at hz1 hz2 hz3 hz4); (have q0x0 := hcb w.heap.size 0 (by simp <;> omega)); (simp [go_sem] at q0x0); (have q0x1 := hcb w.heap.size 1 (by simp <;> omega)); (simp [go_sem] at q0x1); (have q0x2 := hcb w.heap.size 2 (by simp <;> omega)); (simp [go_sem] at q0x2); (have q1x0 := hcb (w.heap.size + 1) 0 (by simp <;> omega)); (simp [go_sem] at q1x0); (have q1x1 := hcb (w.heap.size + 1) 1 (by simp <;> omega)); (simp [go_sem] at q1x1); (have q1x2 := hcb (w.heap.size + 1) 2 (by simp <;> omega)); (simp [go_sem] at q1x2)) | (go_at_call 137; refine (freeAt_any _ _ _ _ _).mono ?_; rintro e w2 ⟨rfl, hb2⟩; obtain ⟨hcb2, hfb2, hy1, hy2, hy3, hy4⟩ := bcell hb2; (have p0 := hcb2 w1.heap.size 0 (by simp)); (simp [go_sem] at p0); (have p1 := hcb2 w1.heap.size 1 (by simp)); (simp [go_sem] at p1); (have p2 := hcb2 w1.heap.size 2 (by simp)); (simp [go_sem] at p2); (have hsz : w.heap.size + 1 < w1.heap.size := hz1 _ (by simp <;> omega)); (have r0 := hcb2 (w.heap.size + 1) 0 (by simp; omega)); (simp [go_sem, hsz, q1x0] at r0); (have r1 := hcb2 (w.heap.size + 1) 1 (by simp; omega)); (simp [go_sem, hsz, q1x1] at r1); (have r2 := hcb2 (w.heap.size + 1) 2 (by simp; omega)); (simp [go_sem, hsz, q1x2] at r2); (have f1 := hfb2 w1.heap.size 0 (by simp)); (have hsz2 : w1.heap.size < w2.heap.size := hy1 _ (by simp))) | (go_at_call 92; refine (schedOk_any _ _).mono ?_; rintro e w' ⟨rfl, rfl⟩) | (go_at_call 75; refine (timeOk_any _ _).mono ?_; rintro e w' ⟨rfl, rfl⟩) | (go_at_call 74; refine (between_any _ _ _ _).mono ?_; rintro e w' ⟨rfl, rfl⟩) | (go_at_call 125; go_in))
            all_goals refine bodyPost_ret (v := .tuple #[.agg #[.int .i64 (a), .int .i64 (e), .int .i64 (u)], .bool false]) (by simp [results, Tryz.results108, go_sem, *] <;> omega) rfl ⟨rfl, by (repeat' (first | (with_reducible exact Below.refl _ _) | (with_reducible assumption) | (with_reducible refine Below.alloc ?_ ?_ _) | (with_reducible refine Below.drew ?_) | (with_reducible refine Below.setCell ?_ ?_ _) | (with_reducible refine bstep (by assumption) ?_ ?_) | (with_reducible exact Nat.le_refl _) | omega | (simp [*]; done) | (simp [*]; omega)))⟩
    · have hv : grantL a e u who t long = ((a, e, u), false) := by unfold grantL; rw [if_pos h1, if_neg h2]
      rw [hv]
      clear hv
      rcases (show whoB who = false ∨ (whoB who = true ∧ inB t 0 1000000 = false) ∨ (whoB who = true ∧ inB t 0 1000000 = true ∧ inB long 1 1000 = false) by
        cases hf : whoB who with
        | false => exact .inl rfl
        | true =>
          cases hg : inB t 0 1000000 with
          | false => exact .inr (.inl ⟨rfl, rfl⟩)
          | true => rw [hf, hg] at h2; simp at h2; exact .inr (.inr ⟨rfl, rfl, h2⟩)) with h6 | ⟨h6, h7⟩ | ⟨h6, h7, h8⟩
      all_goals clear h2
      all_goals go_enter Tryz.func108, Tryz.ntmps108
      all_goals go_wp2_with (first | (go_at_call 78; refine (leaseOk_any _ _ _ _).mono ?_; rintro e w1 ⟨rfl, hb'⟩; (first | (have hb2 := bstep hb' hb hb.size; clear hb' hcb hfb hz1 hz2 hz3 hz4 hb; have hb := hb2; clear hb2) | (have hb := hb'; clear hb')); obtain ⟨hcb, hfb, hz1, hz2, hz3, hz4⟩ := bcell hb; (try simp only [World.size_alloc, World.size_setCell, World.size_drew, Nat.lt_add_one_iff, Nat.add_assoc, Nat.reduceAdd] at hz1 hz2 hz3 hz4); (have q0x0 := hcb w.heap.size 0 (by simp <;> omega)); (simp [go_sem] at q0x0); (have q0x1 := hcb w.heap.size 1 (by simp <;> omega)); (simp [go_sem] at q0x1); (have q0x2 := hcb w.heap.size 2 (by simp <;> omega)); (simp [go_sem] at q0x2); (have q1x0 := hcb (w.heap.size + 1) 0 (by simp <;> omega)); (simp [go_sem] at q1x0); (have q1x1 := hcb (w.heap.size + 1) 1 (by simp <;> omega)); (simp [go_sem] at q1x1); (have q1x2 := hcb (w.heap.size + 1) 2 (by simp <;> omega)); (simp [go_sem] at q1x2)) | (go_at_call 137; refine (freeAt_any _ _ _ _ _).mono ?_; rintro e w2 ⟨rfl, hb2⟩; obtain ⟨hcb2, hfb2, hy1, hy2, hy3, hy4⟩ := bcell hb2; (have p0 := hcb2 w1.heap.size 0 (by simp)); (simp [go_sem] at p0); (have p1 := hcb2 w1.heap.size 1 (by simp)); (simp [go_sem] at p1); (have p2 := hcb2 w1.heap.size 2 (by simp)); (simp [go_sem] at p2); (have hsz : w.heap.size + 1 < w1.heap.size := hz1 _ (by simp <;> omega)); (have r0 := hcb2 (w.heap.size + 1) 0 (by simp; omega)); (simp [go_sem, hsz, q1x0] at r0); (have r1 := hcb2 (w.heap.size + 1) 1 (by simp; omega)); (simp [go_sem, hsz, q1x1] at r1); (have r2 := hcb2 (w.heap.size + 1) 2 (by simp; omega)); (simp [go_sem, hsz, q1x2] at r2); (have f1 := hfb2 w1.heap.size 0 (by simp)); (have hsz2 : w1.heap.size < w2.heap.size := hy1 _ (by simp))) | (go_at_call 92; refine (schedOk_any _ _).mono ?_; rintro e w' ⟨rfl, rfl⟩) | (go_at_call 75; refine (timeOk_any _ _).mono ?_; rintro e w' ⟨rfl, rfl⟩) | (go_at_call 74; refine (between_any _ _ _ _).mono ?_; rintro e w' ⟨rfl, rfl⟩) | (go_at_call 125; go_in))
      all_goals refine bodyPost_ret (v := .tuple #[.agg #[.int .i64 (a), .int .i64 (e), .int .i64 (u)], .bool false]) (by simp [results, Tryz.results108, go_sem, *] <;> omega) rfl ⟨rfl, by (repeat' (first | (with_reducible exact Below.refl _ _) | (with_reducible assumption) | (with_reducible refine Below.alloc ?_ ?_ _) | (with_reducible refine Below.drew ?_) | (with_reducible refine Below.setCell ?_ ?_ _) | (with_reducible refine bstep (by assumption) ?_ ?_) | (with_reducible exact Nat.le_refl _) | omega | (simp [*]; done) | (simp [*]; omega)))⟩
  · have hv : grantL a e u who t long = ((0, 0, 0), false) := by unfold grantL; rw [if_neg h1]
    rw [hv]
    have h1' : leaseB a e u = false := by simpa using h1
    clear hv h1
    go_enter Tryz.func108, Tryz.ntmps108
    go_wp2_with (first | (go_at_call 78; refine (leaseOk_any _ _ _ _).mono ?_; rintro e w1 ⟨rfl, hb'⟩; (first | (have hb2 := bstep hb' hb hb.size; clear hb' hcb hfb hz1 hz2 hz3 hz4 hb; have hb := hb2; clear hb2) | (have hb := hb'; clear hb')); obtain ⟨hcb, hfb, hz1, hz2, hz3, hz4⟩ := bcell hb; (try simp only [World.size_alloc, World.size_setCell, World.size_drew, Nat.lt_add_one_iff, Nat.add_assoc, Nat.reduceAdd] at hz1 hz2 hz3 hz4); (have q0x0 := hcb w.heap.size 0 (by simp <;> omega)); (simp [go_sem] at q0x0); (have q0x1 := hcb w.heap.size 1 (by simp <;> omega)); (simp [go_sem] at q0x1); (have q0x2 := hcb w.heap.size 2 (by simp <;> omega)); (simp [go_sem] at q0x2); (have q1x0 := hcb (w.heap.size + 1) 0 (by simp <;> omega)); (simp [go_sem] at q1x0); (have q1x1 := hcb (w.heap.size + 1) 1 (by simp <;> omega)); (simp [go_sem] at q1x1); (have q1x2 := hcb (w.heap.size + 1) 2 (by simp <;> omega)); (simp [go_sem] at q1x2)) | (go_at_call 137; refine (freeAt_any _ _ _ _ _).mono ?_; rintro e w2 ⟨rfl, hb2⟩; obtain ⟨hcb2, hfb2, hy1, hy2, hy3, hy4⟩ := bcell hb2; (have p0 := hcb2 w1.heap.size 0 (by simp)); (simp [go_sem] at p0); (have p1 := hcb2 w1.heap.size 1 (by simp)); (simp [go_sem] at p1); (have p2 := hcb2 w1.heap.size 2 (by simp)); (simp [go_sem] at p2); (have hsz : w.heap.size + 1 < w1.heap.size := hz1 _ (by simp <;> omega)); (have r0 := hcb2 (w.heap.size + 1) 0 (by simp; omega)); (simp [go_sem, hsz, q1x0] at r0); (have r1 := hcb2 (w.heap.size + 1) 1 (by simp; omega)); (simp [go_sem, hsz, q1x1] at r1); (have r2 := hcb2 (w.heap.size + 1) 2 (by simp; omega)); (simp [go_sem, hsz, q1x2] at r2); (have f1 := hfb2 w1.heap.size 0 (by simp)); (have hsz2 : w1.heap.size < w2.heap.size := hy1 _ (by simp))) | (go_at_call 92; refine (schedOk_any _ _).mono ?_; rintro e w' ⟨rfl, rfl⟩) | (go_at_call 75; refine (timeOk_any _ _).mono ?_; rintro e w' ⟨rfl, rfl⟩) | (go_at_call 74; refine (between_any _ _ _ _).mono ?_; rintro e w' ⟨rfl, rfl⟩) | (go_at_call 125; go_in))
    all_goals refine bodyPost_ret (v := .tuple #[.agg #[.int .i64 (0), .int .i64 (0), .int .i64 (0)], .bool false]) (by simp [results, Tryz.results108, go_sem, *] <;> omega) rfl ⟨rfl, by (repeat' (first | (with_reducible exact Below.refl _ _) | (with_reducible assumption) | (with_reducible refine Below.alloc ?_ ?_ _) | (with_reducible refine Below.drew ?_) | (with_reducible refine Below.setCell ?_ ?_ _) | (with_reducible refine bstep (by assumption) ?_ ?_) | (with_reducible exact Nat.le_refl _) | omega | (simp [*]; done) | (simp [*]; omega)))⟩
end Go.Proofs.YtokklkmibjpjnaaGreat
namespace Go.Proofs.YtokklkmibjpjnaaGreat
set_option linter.unusedSimpArgs false
set_option linter.unusedVariables false
attribute [local go_sem] n_lt2 n_lt3 n_lt4 n_le2 n_le3
open Go.RowKit
structure Ef where
  p : List Pr
  q : List Jb
  h : Int
  e : Int
  u : Int
def effE (l0 l1 l2 : Int) (pl : List Pr) (ql : List Jb) (ex et ec es ek ea eb eg eh : Int) : Ef × Bool :=
  if ek = 1 then (⟨(putR pl ea eb).1, ql, l0, l1, l2⟩, (putR pl ea eb).2)
  else if ek = 2 then (⟨(cutR pl ea).1, ql, l0, l1, l2⟩, (cutR pl ea).2)
  else if ek = 3 then (⟨pl, (addR ql ⟨ea, eb, eg, eh, 0⟩).1, l0, l1, l2⟩, (addR ql ⟨ea, eb, eg, eh, 0⟩).2)
  else if ek = 4 then (if firesB l0 l1 l2 ql et ec ek ea eb = true then (⟨(putR pl (jobAtV ql ea).1.k (jobAtV ql ea).1.v).1, (firedR ql (jobAtV ql ea).1.i ex).1, l0, l1, l2⟩, true) else (⟨pl, ql, l0, l1, l2⟩, false))
  else (⟨pl, ql, (grantL l0 l1 l2 ec et ea).1.1, (grantL l0 l1 l2 ec et ea).1.2.1, (grantL l0 l1 l2 ec et ea).1.2.2⟩, (grantL l0 l1 l2 ec et ea).2)
/-- The state behind the next entry (its index and time are the entry's). -/
def appE (l0 l1 l2 : Int) (pl : List Pr) (ql : List Jb) (ex et ec es ek ea eb eg eh : Int) : Ef := if (effE l0 l1 l2 pl ql ex et ec es ek ea eb eg eh).2 = true then (effE l0 l1 l2 pl ql ex et ec es ek ea eb eg eh).1 else ⟨pl, ql, l0, l1, l2⟩
def appI (l0 l1 l2 : Int) (pl : List Pr) (ql : List Jb) (ex et ec es ek ea eb eg eh : Int) : Int := if (effE l0 l1 l2 pl ql ex et ec es ek ea eb eg eh).2 = true then ek else 0
def effI (i0 t0 l0 l1 l2 : Int) (pl : List Pr) (ql : List Jb) (ex et ec es ek ea eb eg eh : Int) : Int := if nextInB i0 t0 l0 l1 l2 pl ql ex et ec es ek ea eb eg eh = true then appI l0 l1 l2 pl ql ex et ec es ek ea eb eg eh else -1

theorem ef_pairs_right {l : List Pr} (h : pairsB l = true) : ∀ p ∈ l, rightB p.k p.v = true := fun p hp => by
  obtain ⟨i, hi, rfl⟩ := List.getElem_of_mem hp
  have := pairsB_all h i hi
  simp only [List.getD, List.getElem?_eq_getElem hi, Option.getD_some, pairAt, Bool.and_eq_true] at this
  unfold rightB
  rw [this.1, this.2.1]
  rfl
theorem ef_pairs_mk {l : List Pr} (h : l.Pairwise (fun p q => p.k < q.k)) (hr : ∀ p ∈ l, rightB p.k p.v = true) : pairsB l = true := by
  refine all_range_true (fun i hi => ?_)
  have h1 := hr l[i] (List.getElem_mem hi)
  unfold rightB at h1
  simp only [Bool.and_eq_true] at h1
  unfold pairAt
  have e1 : l.getD i default = l[i] := by simp [List.getD, hi]
  rw [e1, h1.1, h1.2]
  by_cases h0 : i = 0
  · simp [h0]
  · have e2 : l.getD (i - 1) default = l[i - 1] := by simp [List.getD, show i - 1 < l.length by omega]
    have := List.pairwise_iff_getElem.1 h (i - 1) i (by omega) hi (by omega)
    rw [e2, decide_eq_true this]
    simp
theorem ef_put_ok {l : List Pr} {key v : Int} (h : pairsB l = true) : pairsB (putR l key v).1 = true := by
  unfold putR
  rw [if_pos h]
  split
  · rename_i hr
    exact ef_pairs_mk (putL_lt key v (pairs_lt h)) (fun p hp => by
      rcases putL_mem hp with rfl | hp
      · exact hr
      · exact ef_pairs_right h p hp)
  · exact h
theorem ef_cut_ok {l : List Pr} {key : Int} (h : pairsB l = true) : pairsB (cutR l key).1 = true := by
  unfold cutR
  rw [if_pos h]
  exact ef_pairs_mk ((pairs_lt h).filter _) (fun p hp => ef_pairs_right h p (List.mem_filter.1 hp).1)
theorem ef_cut_is {l : List Pr} {key : Int} (h : pairsB l = true) : (valueAtB l key).2 = (cutR l key).2 := by
  unfold valueAtB cutR valAt
  rw [if_pos h, if_pos h]
  by_cases hk : keyIx l key < l.length
  · rw [if_pos hk, cutL_hit h hk]
    exact (decide_eq_true (by omega)).symm
  · rw [if_neg hk, cutL_miss hk]
    exact (decide_eq_false (by omega)).symm
theorem ef_jobs_mk {l : List Jb} (h8 : l.length ≤ 8) (h : l.Pairwise (fun p q => p.i < q.i)) (hr : ∀ p ∈ l, jobOkB p = true) (hf : l.Pairwise (fun p q => 0 < q.f → p.f ≠ q.f)) : jobsB l = true := by
  refine jobsB_true h8 (fun j hj => ?_)
  have e1 : l.getD j default = l[j] := by simp [List.getD, hj]
  unfold jobAtB
  rw [e1, hr l[j] (List.getElem_mem hj)]
  have h1 : (decide (j = 0) || decide ((l.getD (j - 1) default).i < (l[j]).i)) = true := by
    by_cases h0 : j = 0
    · simp [h0]
    · have e2 : l.getD (j - 1) default = l[j - 1] := by simp [List.getD, show j - 1 < l.length by omega]
      have := List.pairwise_iff_getElem.1 h (j - 1) j (by omega) hj (by omega)
      rw [e2, decide_eq_true this]
      simp
  have h2 : (decide (0 < (l[j]).f) && firedBefore l j (l[j]).f) = false := by
    by_cases h0 : 0 < (l[j]).f
    · rw [firedBefore_false (fun k hk => by
        have e3 : l.getD k default = l[k] := by simp [List.getD, show k < l.length by omega]
        rw [e3]
        exact List.pairwise_iff_getElem.1 hf k j (by omega) hj hk h0)]
      simp
    · rw [decide_eq_false h0]
      rfl
  rw [h1, h2]
  rfl
theorem ef_jobs_f {l : List Jb} (h : jobsB l = true) : l.Pairwise (fun p q => 0 < q.f → p.f ≠ q.f) := by
  rw [List.pairwise_iff_getElem]
  intro i j hi hj hij h0 he
  have := (jobsB_all h).2 j hj
  unfold jobAtB at this
  simp only [Bool.and_eq_true, Bool.not_eq_true', Bool.and_eq_false_iff, decide_eq_false_iff_not] at this
  have e1 : l.getD j default = l[j] := by simp [List.getD, hj]
  have e2 : l.getD i default = l[i] := by simp [List.getD, hi]
  rw [e1] at this
  rcases this.2.2 with h1 | h1
  · exact h1 h0
  · rw [firedBefore_true hij (by rw [e2]; exact he)] at h1
    cases h1
theorem ef_jobs_ok {l : List Jb} (h : jobsB l = true) : ∀ p ∈ l, jobOkB p = true := fun p hp => by
  obtain ⟨i, hi, rfl⟩ := List.getElem_of_mem hp
  have := jobAtB_ok ((jobsB_all h).2 i hi)
  simpa only [List.getD, List.getElem?_eq_getElem hi, Option.getD_some] using this
theorem ef_addL_pw {R : Jb → Jb → Prop} {l : List Jb} {x : Jb} (h : l.Pairwise R) (h1 : ∀ p ∈ l, R p x) (h2 : ∀ p ∈ l, R x p) : (addL l x).Pairwise R := by
  induction l with
  | nil => simp [addL]
  | cons p t ih =>
    rw [List.pairwise_cons] at h
    rw [addL]
    split
    · rw [List.pairwise_cons]
      refine ⟨fun q hq => ?_, ih h.2 (fun q hq => h1 q (by simp [hq])) (fun q hq => h2 q (by simp [hq]))⟩
      rcases addL_mem hq with rfl | hq
      · exact h1 p (by simp)
      · exact h.1 q hq
    · rw [List.pairwise_cons, List.pairwise_cons]
      exact ⟨fun q hq => h2 q hq, h⟩
theorem ef_fired_iff {l : List Jb} {i : Int} : firedIn l i = true ↔ ∀ p ∈ l, p.f ≤ i := by
  unfold firedIn
  rw [List.all_eq_true]
  constructor
  · intro h p hp
    obtain ⟨k, hk, rfl⟩ := List.getElem_of_mem hp
    have := h k (List.mem_range.2 hk)
    simpa only [List.getD, List.getElem?_eq_getElem hk, Option.getD_some, decide_eq_true_eq] using this
  · intro h k hk
    rw [List.mem_range] at hk
    have := h l[k] (List.getElem_mem hk)
    simpa only [List.getD, List.getElem?_eq_getElem hk, Option.getD_some, decide_eq_true_eq] using this
theorem ef_add_ok {l : List Jb} {x : Jb} (h : jobsB l = true) : jobsB (addR l x).1 = true := by
  unfold addR
  rw [if_pos h]
  split
  · rename_i ha
    unfold addOk at ha
    simp only [Bool.and_eq_true, decide_eq_true_eq, Bool.not_eq_true'] at ha
    obtain ⟨hj, hf, ht, hl⟩ := ha
    refine ef_jobs_mk (by rw [addL_len]; omega) (addL_lt (jobs_lt h) (jobAtV_there ht)) (fun p hp => ?_) (ef_addL_pw (ef_jobs_f h) (fun p _ h0 => by omega) (fun p _ h0 => by omega))
    rcases addL_mem hp with rfl | hp
    · exact hj
    · exact ef_jobs_ok h p hp
  · exact h
theorem ef_add_in {l : List Jb} {x : Jb} {i : Int} (h : firedIn l i = true) (hx : x.f ≤ i) : firedIn (addR l x).1 i = true := by
  unfold addR
  split
  · split
    · rw [ef_fired_iff] at h ⊢
      intro p hp
      rcases addL_mem hp with rfl | hp
      · exact hx
      · exact h p hp
    · exact h
  · rw [ef_fired_iff]; simp
theorem ef_fire_ok {l : List Jb} {id x : Int} (h : jobsB l = true) : jobsB (firedR l id x).1 = true := by
  unfold firedR
  rw [if_pos h]
  split
  · rename_i ho
    exact fset_ok h ho
  · exact h
theorem ef_fire_in {l : List Jb} {id x i : Int} (h : firedIn l i = true) (hx : x ≤ i) : firedIn (firedR l id x).1 i = true := by
  unfold firedR
  split
  · split
    · rename_i ho
      obtain ⟨hk, _⟩ := firedOk_parts ho
      unfold firedIn at h ⊢
      rw [List.all_eq_true] at h ⊢
      intro j hj
      rw [List.mem_range, fset_len] at hj
      rw [fset_get l _ x hk]
      split
      · exact decide_eq_true hx
      · exact h j (List.mem_range.2 hj)
    · exact h
  · rw [ef_fired_iff]; simp
theorem ef_fired_mono {l : List Jb} {i j : Int} (h : firedIn l i = true) (hij : i ≤ j) : firedIn l j = true := by
  rw [ef_fired_iff] at h ⊢
  exact fun p hp => Int.le_trans (h p hp) hij
theorem ef_who_iff (x : Int) : whoB x = true ↔ x = 2 ∨ x = 3 := by unfold whoB; simp
theorem ef_lease_mk {h e u : Int} (h1 : h = 2 ∨ h = 3) (h2 : 1 ≤ e ∧ e ≤ 1000) (h3 : 1 ≤ u ∧ u ≤ 1001000) : leaseB h e u = true := by
  unfold leaseB
  rw [(ef_who_iff h).2 h1, (inB_iff _ _ _).2 h2, (inB_iff _ _ _).2 h3]
  simp
theorem ef_grant_ok {h e u who t long : Int} (hl : leaseB h e u = true) : leaseB (grantL h e u who t long).1.1 (grantL h e u who t long).1.2.1 (grantL h e u who t long).1.2.2 = true := by
  have hb : (h = 0 ∧ e = 0 ∧ u = 0) ∨ ((h = 2 ∨ h = 3) ∧ 1 ≤ e ∧ e ≤ 1000 ∧ 1 ≤ u ∧ u ≤ 1001000) := by
    have hl' := hl
    unfold leaseB at hl'
    simp only [Bool.or_eq_true, Bool.and_eq_true, decide_eq_true_eq, inB_iff, ef_who_iff] at hl'
    rcases hl' with hl' | hl'
    · exact .inl hl'
    · exact .inr ⟨hl'.1, hl'.2.1.1, hl'.2.1.2, hl'.2.2.1, hl'.2.2.2⟩
  unfold grantL
  rw [if_pos hl]
  split
  · rename_i hw
    simp only [Bool.and_eq_true, inB_iff, ef_who_iff] at hw
    split
    · rename_i he
      exact ef_lease_mk (by simp only; omega) (by simp only; omega) (by simp only; omega)
    · split
      · rename_i hg
        simp only [Bool.and_eq_true, decide_eq_true_eq] at hg
        exact ef_lease_mk (by simp only; omega) (by simp only; omega) (by simp only; omega)
      · exact hl
  · exact hl
theorem stateB_all {i0 t0 l0 l1 l2 : Int} {pl : List Pr} {ql : List Jb} (h : stateB i0 t0 l0 l1 l2 pl ql = true) : (0 ≤ i0 ∧ i0 ≤ 2000) ∧ (0 ≤ t0 ∧ t0 ≤ 1000000) ∧ pairsB pl = true ∧ jobsB ql = true ∧ leaseB l0 l1 l2 = true ∧ firedIn ql i0 = true := by
  unfold stateB at h
  simp only [Bool.and_eq_true, inB_iff] at h
  exact ⟨h.1, h.2.1, h.2.2.1, h.2.2.2.1, h.2.2.2.2.1, h.2.2.2.2.2⟩
theorem stateB_mk {i0 t0 l0 l1 l2 : Int} {pl : List Pr} {ql : List Jb} (h1 : 0 ≤ i0 ∧ i0 ≤ 2000) (h2 : 0 ≤ t0 ∧ t0 ≤ 1000000) (h3 : pairsB pl = true) (h4 : jobsB ql = true) (h5 : leaseB l0 l1 l2 = true) (h6 : firedIn ql i0 = true) : stateB i0 t0 l0 l1 l2 pl ql = true := by
  unfold stateB
  rw [(inB_iff _ _ _).2 h1, (inB_iff _ _ _).2 h2, h3, h4, h5, h6]
  rfl
theorem nextB_parts {i0 t0 ex et ec es ek ea eb eg eh : Int} (h : nextB i0 t0 ex et ec es ek ea eb eg eh = true) : (1 ≤ ex ∧ ex ≤ 2000) ∧ (0 ≤ et ∧ et ≤ 1000000) ∧ (2 ≤ ec ∧ ec ≤ 5) ∧ (1 ≤ es ∧ es ≤ 2000) ∧ opB ek ea eb eg eh = true ∧ ex = i0 + 1 ∧ t0 ≤ et := by
  unfold nextB entryB at h
  simp only [Bool.and_eq_true, inB_iff, beq_iff_eq, decide_eq_true_eq] at h
  exact ⟨h.1.1, h.1.2.1, h.1.2.2.1, h.1.2.2.2.1, h.1.2.2.2.2, h.2.1, h.2.2⟩
theorem opB_kind {k a b c d : Int} (h : opB k a b c d = true) : k = 1 ∨ k = 2 ∨ k = 3 ∨ k = 4 ∨ k = 5 := by
  unfold opB at h
  repeat' split at h
  all_goals first | omega | (exact absurd h (by decide))
theorem eff_ok {i0 t0 l0 l1 l2 : Int} {pl : List Pr} {ql : List Jb} {ex et ec es ek ea eb eg eh : Int} (h : stateB i0 t0 l0 l1 l2 pl ql = true) (hn : nextB i0 t0 ex et ec es ek ea eb eg eh = true) :
    stateB ex et (effE l0 l1 l2 pl ql ex et ec es ek ea eb eg eh).1.h (effE l0 l1 l2 pl ql ex et ec es ek ea eb eg eh).1.e (effE l0 l1 l2 pl ql ex et ec es ek ea eb eg eh).1.u (effE l0 l1 l2 pl ql ex et ec es ek ea eb eg eh).1.p (effE l0 l1 l2 pl ql ex et ec es ek ea eb eg eh).1.q = true := by
  obtain ⟨a1, a2, a3, a4, a5, a6⟩ := stateB_all h
  obtain ⟨b1, b2, b3, b4, b5, b6, b7⟩ := nextB_parts hn
  have a6' := ef_fired_mono (j := ex) a6 (by omega)
  have c1 : 0 ≤ ex ∧ ex ≤ 2000 := by omega
  unfold effE
  split
  · exact stateB_mk c1 b2 (ef_put_ok a3) a4 a5 a6'
  · split
    · exact stateB_mk c1 b2 (ef_cut_ok a3) a4 a5 a6'
    · split
      · exact stateB_mk c1 b2 a3 (ef_add_ok a4) a5 (ef_add_in a6' (by simp only; omega))
      · split
        · split
          · exact stateB_mk c1 b2 (ef_put_ok a3) (ef_fire_ok a4) a5 (ef_fire_in a6' (Int.le_refl _))
          · exact stateB_mk c1 b2 a3 a4 a5 a6'
        · exact stateB_mk c1 b2 a3 a4 (ef_grant_ok a5) a6'
/-- The next entry of a valid state leads to a valid state. -/
theorem app_ok {i0 t0 l0 l1 l2 : Int} {pl : List Pr} {ql : List Jb} {ex et ec es ek ea eb eg eh : Int} (h : stateB i0 t0 l0 l1 l2 pl ql = true) (hn : nextB i0 t0 ex et ec es ek ea eb eg eh = true) :
    stateB ex et (appE l0 l1 l2 pl ql ex et ec es ek ea eb eg eh).h (appE l0 l1 l2 pl ql ex et ec es ek ea eb eg eh).e (appE l0 l1 l2 pl ql ex et ec es ek ea eb eg eh).u (appE l0 l1 l2 pl ql ex et ec es ek ea eb eg eh).p (appE l0 l1 l2 pl ql ex et ec es ek ea eb eg eh).q = true := by
  unfold appE
  split
  · exact eff_ok h hn
  · obtain ⟨a1, a2, a3, a4, a5, a6⟩ := stateB_all h
    obtain ⟨b1, b2, b3, b4, b5, b6, b7⟩ := nextB_parts hn
    exact stateB_mk (by omega) b2 a3 a4 a5 (ef_fired_mono a6 (by omega))
theorem stateB_lens {i0 t0 l0 l1 l2 : Int} {pl : List Pr} {ql : List Jb} (h : stateB i0 t0 l0 l1 l2 pl ql = true) : pl.length ≤ 10 ∧ ql.length ≤ 8 := by
  obtain ⟨a1, a2, a3, a4, a5, a6⟩ := stateB_all h
  exact ⟨pairsB_len a3, (jobsB_all a4).1⟩
/-- The reference's tests, kind by kind. -/
theorem put_does {i0 t0 l0 l1 l2 : Int} {pl : List Pr} {ql : List Jb} {ex et ec es ea eb eg eh : Int} (h : stateB i0 t0 l0 l1 l2 pl ql = true) (hn : nextB i0 t0 ex et ec es 1 ea eb eg eh = true) : (putR pl ea eb).2 = true := by
  obtain ⟨a1, a2, a3, a4, a5, a6⟩ := stateB_all h
  obtain ⟨b1, b2, b3, b4, b5, b6, b7⟩ := nextB_parts hn
  unfold opB at b5
  rw [if_pos rfl] at b5
  simp only [Bool.and_eq_true] at b5
  unfold putR
  rw [if_pos a3, if_pos (by unfold rightB; rw [b5.1, b5.2.1]; rfl)]
theorem job_id {ql : List Jb} {ea : Int} (h : (jobAtV ql ea).2 = true) : (jobAtV ql ea).1.i = ea := by
  unfold jobAtV at h ⊢
  by_cases hk : jobIx ql ea < ql.length
  · rw [if_pos hk]
    exact jobIx_hit hk
  · rw [if_neg hk] at h
    cases h
theorem fires_id {l0 l1 l2 : Int} {ql : List Jb} {et ec ek ea eb : Int} (h : firesB l0 l1 l2 ql et ec ek ea eb = true) : (jobAtV ql ea).1.i = ea ∧ (jobAtV ql ea).2 = true := by
  unfold firesB at h
  simp only [Bool.and_eq_true] at h
  exact ⟨job_id h.2.1, h.2.1⟩
end Go.Proofs.YtokklkmibjpjnaaGreat
namespace Go.Proofs.YtokklkmibjpjnaaGreat
set_option linter.unusedSimpArgs false
set_option linter.unusedVariables false
attribute [local go_sem] n_lt2 n_lt3 n_lt4 n_le2 n_le3
open Go.RowKit
structure En where
  x : Int
  t : Int
  c : Int
  s : Int
  k : Int
  a : Int
  b : Int
  g : Int
  h : Int
instance : Inhabited En := ⟨⟨0, 0, 0, 0, 0, 0, 0, 0, 0⟩⟩
/-- Entries, their numbers one behind the other. -/
def EN (l : List En) : List Int := l.flatMap fun e => [e.x, e.t, e.c, e.s, e.k, e.a, e.b, e.g, e.h]
theorem EN_len (l : List En) : (EN l).length = l.length * 9 := flat_len _ 9 l (fun _ _ => rfl)
theorem EN_append (a b : List En) : EN (a ++ b) = EN a ++ EN b := by unfold EN; rw [List.flatMap_append]
theorem EN_get (l : List En) (i j : Nat) (h : i < l.length) (hj : j < 9) : (EN l).getD (i * 9 + j) 0 = [(l.getD i default).x, (l.getD i default).t, (l.getD i default).c, (l.getD i default).s, (l.getD i default).k, (l.getD i default).a, (l.getD i default).b, (l.getD i default).g, (l.getD i default).h].getD j 0 := by
  have := flat_getD (fun e : En => [e.x, e.t, e.c, e.s, e.k, e.a, e.b, e.g, e.h]) 9 l (fun _ _ => rfl) i j h hj
  have e : l.getD i default = l[i] := by simp [List.getD, h]
  rw [e]
  exact this
theorem sl_entries {w : World} {b off n : Nat} {l : List En} (h : Sl w 9 (some ⟨b, off, none⟩) n (EN l)) (hn : 0 < n) : b < w.heap.size ∧
    ∀ i, i < n → ∀ j, j < 9 → w.cell? ⟨b, off + i * 9 + j, none⟩ = some (.int .i64 ([(l.getD i default).x, (l.getD i default).t, (l.getD i default).c, (l.getD i default).s, (l.getD i default).k, (l.getD i default).a, (l.getD i default).b, (l.getD i default).g, (l.getD i default).h].getD j 0)) := by
  have hl : l.length = n := by
    have := h.len
    rw [EN_len] at this
    omega
  obtain ⟨b', off', hA, hb, hc⟩ := h.at_ hn
  injection hA with hA
  injection hA with h1 h2
  subst h1 h2
  exact ⟨hb, fun i hi j hj => by rw [Nat.add_assoc, hc (i * 9 + j) (by omega), EN_get l i j (by omega) hj]⟩
theorem EN_take (l : List En) (k : Nat) : EN (l.take k) = (EN l).take (k * 9) := by
  induction l generalizing k with
  | nil => simp [EN]
  | cons e l ih =>
    cases k with
    | zero => simp [EN]
    | succ k =>
      rw [List.take_succ_cons]
      show [e.x, e.t, e.c, e.s, e.k, e.a, e.b, e.g, e.h] ++ EN (l.take k) = ([e.x, e.t, e.c, e.s, e.k, e.a, e.b, e.g, e.h] ++ EN l).take ((k + 1) * 9)
      rw [ih, show (k + 1) * 9 = 9 + k * 9 by omega, List.take_append, List.take_of_length_le (show [e.x, e.t, e.c, e.s, e.k, e.a, e.b, e.g, e.h].length ≤ 9 + k * 9 by simp)]
      simp
theorem EN_drop (l : List En) (k : Nat) : EN (l.drop k) = (EN l).drop (k * 9) := by
  induction l generalizing k with
  | nil => simp [EN]
  | cons e l ih =>
    cases k with
    | zero => simp
    | succ k =>
      rw [List.drop_succ_cons, ih]
      show (EN l).drop (k * 9) = ([e.x, e.t, e.c, e.s, e.k, e.a, e.b, e.g, e.h] ++ EN l).drop ((k + 1) * 9)
      rw [show (k + 1) * 9 = 9 + k * 9 by omega, List.drop_append]
      simp
/-- A state, its numbers and lists. -/
structure Sta where
  i : Int
  t : Int
  p : List Pr
  q : List Jb
  h : Int
  e : Int
  u : Int
def staOk (s : Sta) : Bool := stateB s.i s.t s.h s.e s.u s.p s.q
def sta0 : Sta := ⟨0, 0, [], [], 0, 0, 0⟩
def stNext (s : Sta) (e : En) : Bool := nextB s.i s.t e.x e.t e.c e.s e.k e.a e.b e.g e.h
def stApp (s : Sta) (e : En) : Sta :=
  ⟨e.x, e.t, (appE s.h s.e s.u s.p s.q e.x e.t e.c e.s e.k e.a e.b e.g e.h).p, (appE s.h s.e s.u s.p s.q e.x e.t e.c e.s e.k e.a e.b e.g e.h).q, (appE s.h s.e s.u s.p s.q e.x e.t e.c e.s e.k e.a e.b e.g e.h).h, (appE s.h s.e s.u s.p s.q e.x e.t e.c e.s e.k e.a e.b e.g e.h).e, (appE s.h s.e s.u s.p s.q e.x e.t e.c e.s e.k e.a e.b e.g e.h).u⟩
/-- The state behind entries. -/
def fold : Sta → List En → Sta
  | s, [] => s
  | s, e :: l => fold (stApp s e) l
/-- Each is the next one. -/
def goodIn : Sta → List En → Prop
  | _, [] => True
  | s, e :: l => stNext s e = true ∧ goodIn (stApp s e) l
theorem fold_append (s : Sta) (a b : List En) : fold s (a ++ b) = fold (fold s a) b := by
  induction a generalizing s with
  | nil => rfl
  | cons e a ih => exact ih _
theorem good_append {s : Sta} {a b : List En} : goodIn s (a ++ b) ↔ goodIn s a ∧ goodIn (fold s a) b := by
  induction a generalizing s with
  | nil => simp [goodIn, fold]
  | cons e a ih =>
    show stNext s e = true ∧ goodIn (stApp s e) (a ++ b) ↔ (stNext s e = true ∧ goodIn (stApp s e) a) ∧ goodIn (fold (stApp s e) a) b
    rw [ih]
    exact and_assoc.symm
theorem stApp_ok {s : Sta} {e : En} (h : staOk s = true) (hn : stNext s e = true) : staOk (stApp s e) = true := app_ok h hn
theorem fold_ok {s : Sta} {l : List En} (h : staOk s = true) (hg : goodIn s l) : staOk (fold s l) = true := by
  induction l generalizing s with
  | nil => exact h
  | cons e l ih => exact ih (stApp_ok h hg.1) hg.2
theorem fold_i {s : Sta} {l : List En} (hg : goodIn s l) : (fold s l).i = s.i + l.length := by
  induction l generalizing s with
  | nil => simp [fold]
  | cons e l ih =>
    have h1 := (nextB_parts hg.1).2.2.2.2.2.1
    show (fold (stApp s e) l).i = _
    rw [ih hg.2]
    show e.x + (l.length : Int) = s.i + ((l.length + 1 : Nat) : Int)
    omega
theorem good_at {s : Sta} {l : List En} (hg : goodIn s l) {j : Nat} (hj : j < l.length) : stNext (fold s (l.take j)) (l.getD j default) = true ∧ fold s (l.take (j + 1)) = stApp (fold s (l.take j)) (l.getD j default) := by
  have hs : l.take (j + 1) = l.take j ++ [l.getD j default] := by
    rw [List.take_add_one]
    simp [List.getD, hj]
  have h1 : goodIn s (l.take j ++ ([l.getD j default] ++ l.drop (j + 1))) := by
    rw [← List.append_assoc, ← hs, List.take_append_drop]
    exact hg
  refine ⟨(good_append.1 h1).2.1, ?_⟩
  rw [hs, fold_append]
  rfl
theorem good_take {s : Sta} {l : List En} (hg : goodIn s l) (k : Nat) : goodIn s (l.take k) ∧ goodIn (fold s (l.take k)) (l.drop k) ∧ fold (fold s (l.take k)) (l.drop k) = fold s l := by
  rw [← List.take_append_drop k l] at hg
  obtain ⟨h1, h2⟩ := good_append.1 hg
  refine ⟨h1, h2, ?_⟩
  rw [← fold_append, List.take_append_drop]
theorem good_snoc {s : Sta} {l : List En} {e : En} (hg : goodIn s l) (hn : stNext (fold s l) e = true) : goodIn s (l ++ [e]) ∧ fold s (l ++ [e]) = stApp (fold s l) e := by
  refine ⟨good_append.2 ⟨hg, hn, trivial⟩, ?_⟩
  rw [fold_append]
  rfl
theorem sta0_ok : staOk sta0 = true := by decide
theorem good_len {l : List En} (hg : goodIn sta0 l) : l.length ≤ 2000 := by
  have h1 := fold_i hg
  have h2 := (stateB_all (fold_ok sta0_ok hg)).1.2
  rw [h1] at h2
  have : sta0.i = 0 := rfl
  omega
end Go.Proofs.YtokklkmibjpjnaaGreat

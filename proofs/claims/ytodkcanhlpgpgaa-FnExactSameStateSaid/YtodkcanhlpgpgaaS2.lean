/- States: SameState, the program's and the reference's. -/
import Derived.Test.YtodkcanhlpgpgaaS1
import Derived.Test.YtodkcanhlpgpgaaP2
import Derived.Test.YtodkcanhlpgpgaaJ3
namespace Go.Proofs.Ytodkcanhlpgpgaa
set_option linter.unusedSimpArgs false
set_option linter.unusedVariables false
attribute [local go_sem] n_lt2 n_lt3 n_lt4 n_le2 n_le3
open Go.RowKit
def sameStateB (i0 t0 l0 l1 l2 : Int) (pl : List Pr) (ql : List Jb) (j0 u0 k0 k1 k2 : Int) (pl2 : List Pr) (ql2 : List Jb) : Bool :=
  stateB i0 t0 l0 l1 l2 pl ql && (stateB j0 u0 k0 k1 k2 pl2 ql2 && ((i0 == j0) && ((t0 == u0) && (samePairsB pl pl2 && (sameJobsB ql ql2 && ((l0 == k0) && ((l1 == k1) && (l2 == k2))))))))
attribute [local go_sem] Ext.cell Ext.frozen
set_option maxRecDepth 100000 in
set_option maxHeartbeats 4000000 in
theorem sameState_any (A : Option Addr) (n c : Nat) (B : Option Addr) (m d : Nat) (i0 t0 l0 l1 l2 : Int) (A2 : Option Addr) (n2 c2 : Nat) (B2 : Option Addr) (m2 d2 : Nat) (j0 u0 k0 k1 k2 : Int) (pl : List Pr) (ql : List Jb) (pl2 : List Pr) (ql2 : List Jb) (w : World) (hP : Sl w 2 A n (PR pl)) (hQ : Sl w 5 B m (JB ql)) (hU : Sl w 2 A2 n2 (PR pl2)) (hW : Sl w 5 B2 m2 (JB ql2)) (hl : pl.length = n) (hr : ql.length = m) (hl2 : pl2.length = n2) (hr2 : ql2.length = m2) (hn : n ≤ maxLen) (hm : m ≤ maxLen) (hn2 : n2 ≤ maxLen) (hm2 : m2 ≤ maxLen) :
    Calls Try.prog 16 #[.agg #[.int .i64 i0, .int .i64 t0, .slice A n c, .slice B m d, .int .i64 l0, .int .i64 l1, .int .i64 l2], .agg #[.int .i64 j0, .int .i64 u0, .slice A2 n2 c2, .slice B2 m2 d2, .int .i64 k0, .int .i64 k1, .int .i64 k2]] w fun e' w' => e' = .returned (.bool (sameStateB i0 t0 l0 l1 l2 pl ql j0 u0 k0 k1 k2 pl2 ql2)) ∧ Below w.heap.size w w' := by
  have hL := Lib.hid hl
  have hR := Lib.hid hr
  have hL2 := Lib.hid hl2
  have hR2 := Lib.hid hr2
  have HP := Lib.hid hP
  have HQ := Lib.hid hQ
  have HU := Lib.hid hU
  have HW := Lib.hid hW
  clear hP hQ hU hW hl hr hl2 hr2
  go_enter Try.func16, Try.ntmps16
  go_wp2_with fail
  refine calls_named ?_
  rintro v0 hv0
  have f0 : Below w.heap.size w v0 := by rw [hv0]; (repeat' (first | (with_reducible exact Below.refl _ _) | (with_reducible assumption) | (with_reducible refine Below.alloc ?_ ?_ _) | (with_reducible refine Below.drew ?_) | (with_reducible refine Below.setCell ?_ ?_ _) | (with_reducible refine bstep (by assumption) ?_ ?_) | (with_reducible exact Nat.le_refl _) | omega | (simp [*]; done) | (simp [*]; omega)))
  have z0 : w.heap.size + 2 ≤ v0.heap.size := by rw [hv0]; simp [size_set]
  have HP_0 := Lib.hid (HP.out.below f0)
  have HP_lt := Lib.hid (fun hn => HP.out.lt hn)
  have HQ_0 := Lib.hid (HQ.out.below f0)
  have HQ_lt := Lib.hid (fun hn => HQ.out.lt hn)
  have HU_0 := Lib.hid (HU.out.below f0)
  have HU_lt := Lib.hid (fun hn => HU.out.lt hn)
  have HW_0 := Lib.hid (HW.out.below f0)
  have HW_lt := Lib.hid (fun hn => HW.out.lt hn)
  have Ha_0 : Hid (Blk v0 w.heap.size 34 #[.int .i64 i0, .int .i64 t0, .slice A n c, .slice B m d, .int .i64 l0, .int .i64 l1, .int .i64 l2]) := by rw [hv0]; exact (Blk.new_at _ _ _ _ (by simp)).alloc _
  have Hb_0 : Hid (Blk v0 (w.heap.size + 1) 34 #[.int .i64 j0, .int .i64 u0, .slice A2 n2 c2, .slice B2 m2 d2, .int .i64 k0, .int .i64 k1, .int .i64 k2]) := by rw [hv0]; exact Blk.new_at _ _ _ _ (by simp)
  clear hv0
  generalize hg1 : w.heap.size + 1 = g1 at *
  have lg1 : w.heap.size < g1 := by omega
  have lgz : g1 < v0.heap.size := by omega
  have nq1x0 : ¬ g1 = w.heap.size := by omega
  have nq0x1 : ¬ w.heap.size = g1 := by omega
  clear hg1
  have lt_a := Ha_0.out.lt
  have r_a0 : v0.cell? ⟨w.heap.size, 0, none⟩ = some (.int .i64 i0) := Ha_0.out.cell 0
  have r_a1 : v0.cell? ⟨w.heap.size, 1, none⟩ = some (.int .i64 t0) := Ha_0.out.cell 1
  have r_a2 : v0.cell? ⟨w.heap.size, 2, none⟩ = some (.slice A n c) := Ha_0.out.cell 2
  have r_a3 : v0.cell? ⟨w.heap.size, 3, none⟩ = some (.slice B m d) := Ha_0.out.cell 3
  have r_a4 : v0.cell? ⟨w.heap.size, 4, none⟩ = some (.int .i64 l0) := Ha_0.out.cell 4
  have r_a5 : v0.cell? ⟨w.heap.size, 5, none⟩ = some (.int .i64 l1) := Ha_0.out.cell 5
  have r_a6 : v0.cell? ⟨w.heap.size, 6, none⟩ = some (.int .i64 l2) := Ha_0.out.cell 6
  have lt_b := Hb_0.out.lt
  have r_b0 : v0.cell? ⟨g1, 0, none⟩ = some (.int .i64 j0) := Hb_0.out.cell 0
  have r_b1 : v0.cell? ⟨g1, 1, none⟩ = some (.int .i64 u0) := Hb_0.out.cell 1
  have r_b2 : v0.cell? ⟨g1, 2, none⟩ = some (.slice A2 n2 c2) := Hb_0.out.cell 2
  have r_b3 : v0.cell? ⟨g1, 3, none⟩ = some (.slice B2 m2 d2) := Hb_0.out.cell 3
  have r_b4 : v0.cell? ⟨g1, 4, none⟩ = some (.int .i64 k0) := Hb_0.out.cell 4
  have r_b5 : v0.cell? ⟨g1, 5, none⟩ = some (.int .i64 k1) := Hb_0.out.cell 5
  have r_b6 : v0.cell? ⟨g1, 6, none⟩ = some (.int .i64 k2) := Hb_0.out.cell 6
  have cc := stateOk_any A n c B m d i0 t0 l0 l1 l2 pl ql v0 HP_0.out HQ_0.out hL.out hR.out hn hm
  cases q1 : (stateB i0 t0 l0 l1 l2 pl ql) with
  | false =>
    rw [q1] at cc
    have Hq1 := Lib.hid q1
    clear q1
    refine (cc).mono ?_
    rintro e v1 ⟨rfl, b1⟩
    have f1 := bthen f0 b1
    have z1 := b1.size
    have HP_1 := Lib.hid (HP_0.out.below b1)
    have HQ_1 := Lib.hid (HQ_0.out.below b1)
    have HU_1 := Lib.hid (HU_0.out.below b1)
    have HW_1 := Lib.hid (HW_0.out.below b1)
    have Ha_1 := Lib.hid (Ha_0.out.below b1)
    have Hb_1 := Lib.hid (Hb_0.out.below b1)
    clear lt_a r_a0 r_a1 r_a2 r_a3 r_a4 r_a5 r_a6 lt_b r_b0 r_b1 r_b2 r_b3 r_b4 r_b5 r_b6
    clear HP_0 HQ_0 HU_0 HW_0 Ha_0 Hb_0
    have lt_a := Ha_1.out.lt
    have r_a0 : v1.cell? ⟨w.heap.size, 0, none⟩ = some (.int .i64 i0) := Ha_1.out.cell 0
    have r_a1 : v1.cell? ⟨w.heap.size, 1, none⟩ = some (.int .i64 t0) := Ha_1.out.cell 1
    have r_a2 : v1.cell? ⟨w.heap.size, 2, none⟩ = some (.slice A n c) := Ha_1.out.cell 2
    have r_a3 : v1.cell? ⟨w.heap.size, 3, none⟩ = some (.slice B m d) := Ha_1.out.cell 3
    have r_a4 : v1.cell? ⟨w.heap.size, 4, none⟩ = some (.int .i64 l0) := Ha_1.out.cell 4
    have r_a5 : v1.cell? ⟨w.heap.size, 5, none⟩ = some (.int .i64 l1) := Ha_1.out.cell 5
    have r_a6 : v1.cell? ⟨w.heap.size, 6, none⟩ = some (.int .i64 l2) := Ha_1.out.cell 6
    have lt_b := Hb_1.out.lt
    have r_b0 : v1.cell? ⟨g1, 0, none⟩ = some (.int .i64 j0) := Hb_1.out.cell 0
    have r_b1 : v1.cell? ⟨g1, 1, none⟩ = some (.int .i64 u0) := Hb_1.out.cell 1
    have r_b2 : v1.cell? ⟨g1, 2, none⟩ = some (.slice A2 n2 c2) := Hb_1.out.cell 2
    have r_b3 : v1.cell? ⟨g1, 3, none⟩ = some (.slice B2 m2 d2) := Hb_1.out.cell 3
    have r_b4 : v1.cell? ⟨g1, 4, none⟩ = some (.int .i64 k0) := Hb_1.out.cell 4
    have r_b5 : v1.cell? ⟨g1, 5, none⟩ = some (.int .i64 k1) := Hb_1.out.cell 5
    have r_b6 : v1.cell? ⟨g1, 6, none⟩ = some (.int .i64 k2) := Hb_1.out.cell 6
    have hv : sameStateB i0 t0 l0 l1 l2 pl ql j0 u0 k0 k1 k2 pl2 ql2 = false := by unfold sameStateB; rw [Hq1.out]; simp
    have HV := Lib.hid hv
    clear hv
    go_wp21
    go_ret
    exact ⟨ret_bool HV.out.symm, f1⟩
  | true =>
    rw [q1] at cc
    have Hq1 := Lib.hid q1
    clear q1
    refine (cc).mono ?_
    rintro e v1 ⟨rfl, b1⟩
    have f1 := bthen f0 b1
    have z1 := b1.size
    have HP_1 := Lib.hid (HP_0.out.below b1)
    have HQ_1 := Lib.hid (HQ_0.out.below b1)
    have HU_1 := Lib.hid (HU_0.out.below b1)
    have HW_1 := Lib.hid (HW_0.out.below b1)
    have Ha_1 := Lib.hid (Ha_0.out.below b1)
    have Hb_1 := Lib.hid (Hb_0.out.below b1)
    clear lt_a r_a0 r_a1 r_a2 r_a3 r_a4 r_a5 r_a6 lt_b r_b0 r_b1 r_b2 r_b3 r_b4 r_b5 r_b6
    clear HP_0 HQ_0 HU_0 HW_0 Ha_0 Hb_0
    have lt_a := Ha_1.out.lt
    have r_a0 : v1.cell? ⟨w.heap.size, 0, none⟩ = some (.int .i64 i0) := Ha_1.out.cell 0
    have r_a1 : v1.cell? ⟨w.heap.size, 1, none⟩ = some (.int .i64 t0) := Ha_1.out.cell 1
    have r_a2 : v1.cell? ⟨w.heap.size, 2, none⟩ = some (.slice A n c) := Ha_1.out.cell 2
    have r_a3 : v1.cell? ⟨w.heap.size, 3, none⟩ = some (.slice B m d) := Ha_1.out.cell 3
    have r_a4 : v1.cell? ⟨w.heap.size, 4, none⟩ = some (.int .i64 l0) := Ha_1.out.cell 4
    have r_a5 : v1.cell? ⟨w.heap.size, 5, none⟩ = some (.int .i64 l1) := Ha_1.out.cell 5
    have r_a6 : v1.cell? ⟨w.heap.size, 6, none⟩ = some (.int .i64 l2) := Ha_1.out.cell 6
    have lt_b := Hb_1.out.lt
    have r_b0 : v1.cell? ⟨g1, 0, none⟩ = some (.int .i64 j0) := Hb_1.out.cell 0
    have r_b1 : v1.cell? ⟨g1, 1, none⟩ = some (.int .i64 u0) := Hb_1.out.cell 1
    have r_b2 : v1.cell? ⟨g1, 2, none⟩ = some (.slice A2 n2 c2) := Hb_1.out.cell 2
    have r_b3 : v1.cell? ⟨g1, 3, none⟩ = some (.slice B2 m2 d2) := Hb_1.out.cell 3
    have r_b4 : v1.cell? ⟨g1, 4, none⟩ = some (.int .i64 k0) := Hb_1.out.cell 4
    have r_b5 : v1.cell? ⟨g1, 5, none⟩ = some (.int .i64 k1) := Hb_1.out.cell 5
    have r_b6 : v1.cell? ⟨g1, 6, none⟩ = some (.int .i64 k2) := Hb_1.out.cell 6
    clear cc
    have cc := stateOk_any A2 n2 c2 B2 m2 d2 j0 u0 k0 k1 k2 pl2 ql2 v1 HU_1.out HW_1.out hL2.out hR2.out hn2 hm2
    cases q2 : (stateB j0 u0 k0 k1 k2 pl2 ql2) with
    | false =>
      rw [q2] at cc
      have Hq2 := Lib.hid q2
      clear q2
      go_wp2_with fail
      refine (cc).mono ?_
      rintro e v2 ⟨rfl, b2⟩
      have f2 := bthen f1 b2
      have z2 := b2.size
      have HP_2 := Lib.hid (HP_1.out.below b2)
      have HQ_2 := Lib.hid (HQ_1.out.below b2)
      have HU_2 := Lib.hid (HU_1.out.below b2)
      have HW_2 := Lib.hid (HW_1.out.below b2)
      have Ha_2 := Lib.hid (Ha_1.out.below b2)
      have Hb_2 := Lib.hid (Hb_1.out.below b2)
      clear lt_a r_a0 r_a1 r_a2 r_a3 r_a4 r_a5 r_a6 lt_b r_b0 r_b1 r_b2 r_b3 r_b4 r_b5 r_b6
      clear HP_1 HQ_1 HU_1 HW_1 Ha_1 Hb_1
      have lt_a := Ha_2.out.lt
      have r_a0 : v2.cell? ⟨w.heap.size, 0, none⟩ = some (.int .i64 i0) := Ha_2.out.cell 0
      have r_a1 : v2.cell? ⟨w.heap.size, 1, none⟩ = some (.int .i64 t0) := Ha_2.out.cell 1
      have r_a2 : v2.cell? ⟨w.heap.size, 2, none⟩ = some (.slice A n c) := Ha_2.out.cell 2
      have r_a3 : v2.cell? ⟨w.heap.size, 3, none⟩ = some (.slice B m d) := Ha_2.out.cell 3
      have r_a4 : v2.cell? ⟨w.heap.size, 4, none⟩ = some (.int .i64 l0) := Ha_2.out.cell 4
      have r_a5 : v2.cell? ⟨w.heap.size, 5, none⟩ = some (.int .i64 l1) := Ha_2.out.cell 5
      have r_a6 : v2.cell? ⟨w.heap.size, 6, none⟩ = some (.int .i64 l2) := Ha_2.out.cell 6
      have lt_b := Hb_2.out.lt
      have r_b0 : v2.cell? ⟨g1, 0, none⟩ = some (.int .i64 j0) := Hb_2.out.cell 0
      have r_b1 : v2.cell? ⟨g1, 1, none⟩ = some (.int .i64 u0) := Hb_2.out.cell 1
      have r_b2 : v2.cell? ⟨g1, 2, none⟩ = some (.slice A2 n2 c2) := Hb_2.out.cell 2
      have r_b3 : v2.cell? ⟨g1, 3, none⟩ = some (.slice B2 m2 d2) := Hb_2.out.cell 3
      have r_b4 : v2.cell? ⟨g1, 4, none⟩ = some (.int .i64 k0) := Hb_2.out.cell 4
      have r_b5 : v2.cell? ⟨g1, 5, none⟩ = some (.int .i64 k1) := Hb_2.out.cell 5
      have r_b6 : v2.cell? ⟨g1, 6, none⟩ = some (.int .i64 k2) := Hb_2.out.cell 6
      have hv : sameStateB i0 t0 l0 l1 l2 pl ql j0 u0 k0 k1 k2 pl2 ql2 = false := by unfold sameStateB; rw [Hq1.out, Hq2.out]; simp
      have HV := Lib.hid hv
      clear hv
      go_wp21
      go_ret
      exact ⟨ret_bool HV.out.symm, f2⟩
    | true =>
      rw [q2] at cc
      have Hq2 := Lib.hid q2
      clear q2
      go_wp2_with fail
      refine (cc).mono ?_
      rintro e v2 ⟨rfl, b2⟩
      have f2 := bthen f1 b2
      have z2 := b2.size
      have HP_2 := Lib.hid (HP_1.out.below b2)
      have HQ_2 := Lib.hid (HQ_1.out.below b2)
      have HU_2 := Lib.hid (HU_1.out.below b2)
      have HW_2 := Lib.hid (HW_1.out.below b2)
      have Ha_2 := Lib.hid (Ha_1.out.below b2)
      have Hb_2 := Lib.hid (Hb_1.out.below b2)
      clear lt_a r_a0 r_a1 r_a2 r_a3 r_a4 r_a5 r_a6 lt_b r_b0 r_b1 r_b2 r_b3 r_b4 r_b5 r_b6
      clear HP_1 HQ_1 HU_1 HW_1 Ha_1 Hb_1
      have lt_a := Ha_2.out.lt
      have r_a0 : v2.cell? ⟨w.heap.size, 0, none⟩ = some (.int .i64 i0) := Ha_2.out.cell 0
      have r_a1 : v2.cell? ⟨w.heap.size, 1, none⟩ = some (.int .i64 t0) := Ha_2.out.cell 1
      have r_a2 : v2.cell? ⟨w.heap.size, 2, none⟩ = some (.slice A n c) := Ha_2.out.cell 2
      have r_a3 : v2.cell? ⟨w.heap.size, 3, none⟩ = some (.slice B m d) := Ha_2.out.cell 3
      have r_a4 : v2.cell? ⟨w.heap.size, 4, none⟩ = some (.int .i64 l0) := Ha_2.out.cell 4
      have r_a5 : v2.cell? ⟨w.heap.size, 5, none⟩ = some (.int .i64 l1) := Ha_2.out.cell 5
      have r_a6 : v2.cell? ⟨w.heap.size, 6, none⟩ = some (.int .i64 l2) := Ha_2.out.cell 6
      have lt_b := Hb_2.out.lt
      have r_b0 : v2.cell? ⟨g1, 0, none⟩ = some (.int .i64 j0) := Hb_2.out.cell 0
      have r_b1 : v2.cell? ⟨g1, 1, none⟩ = some (.int .i64 u0) := Hb_2.out.cell 1
      have r_b2 : v2.cell? ⟨g1, 2, none⟩ = some (.slice A2 n2 c2) := Hb_2.out.cell 2
      have r_b3 : v2.cell? ⟨g1, 3, none⟩ = some (.slice B2 m2 d2) := Hb_2.out.cell 3
      have r_b4 : v2.cell? ⟨g1, 4, none⟩ = some (.int .i64 k0) := Hb_2.out.cell 4
      have r_b5 : v2.cell? ⟨g1, 5, none⟩ = some (.int .i64 k1) := Hb_2.out.cell 5
      have r_b6 : v2.cell? ⟨g1, 6, none⟩ = some (.int .i64 k2) := Hb_2.out.cell 6
      clear cc
      cases q3 : (i0 == j0) with
      | false =>
        have Hq3 := Lib.hid q3
        have hv : sameStateB i0 t0 l0 l1 l2 pl ql j0 u0 k0 k1 k2 pl2 ql2 = false := by unfold sameStateB; rw [Hq1.out, Hq2.out, Hq3.out]; simp
        have HV := Lib.hid hv
        clear hv
        go_wp21
        go_ret
        exact ⟨ret_bool HV.out.symm, f2⟩
      | true =>
        have Hq3 : Hid ((i0 == j0) = true) := q3
        cases q4 : (t0 == u0) with
        | false =>
          have Hq4 := Lib.hid q4
          have hv : sameStateB i0 t0 l0 l1 l2 pl ql j0 u0 k0 k1 k2 pl2 ql2 = false := by unfold sameStateB; rw [Hq1.out, Hq2.out, Hq3.out, Hq4.out]; simp
          have HV := Lib.hid hv
          clear hv
          go_wp21
          go_ret
          exact ⟨ret_bool HV.out.symm, f2⟩
        | true =>
          have Hq4 : Hid ((t0 == u0) = true) := q4
          have cc := samePairs_any A A2 n n2 c c2 pl pl2 v2 HP_2.out HU_2.out hL.out hL2.out hn hn2
          cases q5 : (samePairsB pl pl2) with
          | false =>
            rw [q5] at cc
            have Hq5 := Lib.hid q5
            clear q5
            go_wp2_with fail
            refine (cc).mono ?_
            rintro e v3 ⟨rfl, b3⟩
            have f3 := bthen f2 b3
            have z3 := b3.size
            have HP_3 := Lib.hid (HP_2.out.below b3)
            have HQ_3 := Lib.hid (HQ_2.out.below b3)
            have HU_3 := Lib.hid (HU_2.out.below b3)
            have HW_3 := Lib.hid (HW_2.out.below b3)
            have Ha_3 := Lib.hid (Ha_2.out.below b3)
            have Hb_3 := Lib.hid (Hb_2.out.below b3)
            clear lt_a r_a0 r_a1 r_a2 r_a3 r_a4 r_a5 r_a6 lt_b r_b0 r_b1 r_b2 r_b3 r_b4 r_b5 r_b6
            clear HP_2 HQ_2 HU_2 HW_2 Ha_2 Hb_2
            have lt_a := Ha_3.out.lt
            have r_a0 : v3.cell? ⟨w.heap.size, 0, none⟩ = some (.int .i64 i0) := Ha_3.out.cell 0
            have r_a1 : v3.cell? ⟨w.heap.size, 1, none⟩ = some (.int .i64 t0) := Ha_3.out.cell 1
            have r_a2 : v3.cell? ⟨w.heap.size, 2, none⟩ = some (.slice A n c) := Ha_3.out.cell 2
            have r_a3 : v3.cell? ⟨w.heap.size, 3, none⟩ = some (.slice B m d) := Ha_3.out.cell 3
            have r_a4 : v3.cell? ⟨w.heap.size, 4, none⟩ = some (.int .i64 l0) := Ha_3.out.cell 4
            have r_a5 : v3.cell? ⟨w.heap.size, 5, none⟩ = some (.int .i64 l1) := Ha_3.out.cell 5
            have r_a6 : v3.cell? ⟨w.heap.size, 6, none⟩ = some (.int .i64 l2) := Ha_3.out.cell 6
            have lt_b := Hb_3.out.lt
            have r_b0 : v3.cell? ⟨g1, 0, none⟩ = some (.int .i64 j0) := Hb_3.out.cell 0
            have r_b1 : v3.cell? ⟨g1, 1, none⟩ = some (.int .i64 u0) := Hb_3.out.cell 1
            have r_b2 : v3.cell? ⟨g1, 2, none⟩ = some (.slice A2 n2 c2) := Hb_3.out.cell 2
            have r_b3 : v3.cell? ⟨g1, 3, none⟩ = some (.slice B2 m2 d2) := Hb_3.out.cell 3
            have r_b4 : v3.cell? ⟨g1, 4, none⟩ = some (.int .i64 k0) := Hb_3.out.cell 4
            have r_b5 : v3.cell? ⟨g1, 5, none⟩ = some (.int .i64 k1) := Hb_3.out.cell 5
            have r_b6 : v3.cell? ⟨g1, 6, none⟩ = some (.int .i64 k2) := Hb_3.out.cell 6
            have hv : sameStateB i0 t0 l0 l1 l2 pl ql j0 u0 k0 k1 k2 pl2 ql2 = false := by unfold sameStateB; rw [Hq1.out, Hq2.out, Hq3.out, Hq4.out, Hq5.out]; simp
            have HV := Lib.hid hv
            clear hv
            go_wp21
            go_ret
            exact ⟨ret_bool HV.out.symm, f3⟩
          | true =>
            rw [q5] at cc
            have Hq5 := Lib.hid q5
            clear q5
            go_wp2_with fail
            refine (cc).mono ?_
            rintro e v3 ⟨rfl, b3⟩
            have f3 := bthen f2 b3
            have z3 := b3.size
            have HP_3 := Lib.hid (HP_2.out.below b3)
            have HQ_3 := Lib.hid (HQ_2.out.below b3)
            have HU_3 := Lib.hid (HU_2.out.below b3)
            have HW_3 := Lib.hid (HW_2.out.below b3)
            have Ha_3 := Lib.hid (Ha_2.out.below b3)
            have Hb_3 := Lib.hid (Hb_2.out.below b3)
            clear lt_a r_a0 r_a1 r_a2 r_a3 r_a4 r_a5 r_a6 lt_b r_b0 r_b1 r_b2 r_b3 r_b4 r_b5 r_b6
            clear HP_2 HQ_2 HU_2 HW_2 Ha_2 Hb_2
            have lt_a := Ha_3.out.lt
            have r_a0 : v3.cell? ⟨w.heap.size, 0, none⟩ = some (.int .i64 i0) := Ha_3.out.cell 0
            have r_a1 : v3.cell? ⟨w.heap.size, 1, none⟩ = some (.int .i64 t0) := Ha_3.out.cell 1
            have r_a2 : v3.cell? ⟨w.heap.size, 2, none⟩ = some (.slice A n c) := Ha_3.out.cell 2
            have r_a3 : v3.cell? ⟨w.heap.size, 3, none⟩ = some (.slice B m d) := Ha_3.out.cell 3
            have r_a4 : v3.cell? ⟨w.heap.size, 4, none⟩ = some (.int .i64 l0) := Ha_3.out.cell 4
            have r_a5 : v3.cell? ⟨w.heap.size, 5, none⟩ = some (.int .i64 l1) := Ha_3.out.cell 5
            have r_a6 : v3.cell? ⟨w.heap.size, 6, none⟩ = some (.int .i64 l2) := Ha_3.out.cell 6
            have lt_b := Hb_3.out.lt
            have r_b0 : v3.cell? ⟨g1, 0, none⟩ = some (.int .i64 j0) := Hb_3.out.cell 0
            have r_b1 : v3.cell? ⟨g1, 1, none⟩ = some (.int .i64 u0) := Hb_3.out.cell 1
            have r_b2 : v3.cell? ⟨g1, 2, none⟩ = some (.slice A2 n2 c2) := Hb_3.out.cell 2
            have r_b3 : v3.cell? ⟨g1, 3, none⟩ = some (.slice B2 m2 d2) := Hb_3.out.cell 3
            have r_b4 : v3.cell? ⟨g1, 4, none⟩ = some (.int .i64 k0) := Hb_3.out.cell 4
            have r_b5 : v3.cell? ⟨g1, 5, none⟩ = some (.int .i64 k1) := Hb_3.out.cell 5
            have r_b6 : v3.cell? ⟨g1, 6, none⟩ = some (.int .i64 k2) := Hb_3.out.cell 6
            clear cc
            clear q3 q4
            have cc := sameJobs_any B B2 m m2 d d2 ql ql2 v3 HQ_3.out HW_3.out hR.out hR2.out hm hm2
            cases q6 : (sameJobsB ql ql2) with
            | false =>
              rw [q6] at cc
              have Hq6 := Lib.hid q6
              clear q6
              go_wp2_with fail
              refine (cc).mono ?_
              rintro e v4 ⟨rfl, b4⟩
              have f4 := bthen f3 b4
              have z4 := b4.size
              have HP_4 := Lib.hid (HP_3.out.below b4)
              have HQ_4 := Lib.hid (HQ_3.out.below b4)
              have HU_4 := Lib.hid (HU_3.out.below b4)
              have HW_4 := Lib.hid (HW_3.out.below b4)
              have Ha_4 := Lib.hid (Ha_3.out.below b4)
              have Hb_4 := Lib.hid (Hb_3.out.below b4)
              clear lt_a r_a0 r_a1 r_a2 r_a3 r_a4 r_a5 r_a6 lt_b r_b0 r_b1 r_b2 r_b3 r_b4 r_b5 r_b6
              clear HP_3 HQ_3 HU_3 HW_3 Ha_3 Hb_3
              have lt_a := Ha_4.out.lt
              have r_a0 : v4.cell? ⟨w.heap.size, 0, none⟩ = some (.int .i64 i0) := Ha_4.out.cell 0
              have r_a1 : v4.cell? ⟨w.heap.size, 1, none⟩ = some (.int .i64 t0) := Ha_4.out.cell 1
              have r_a2 : v4.cell? ⟨w.heap.size, 2, none⟩ = some (.slice A n c) := Ha_4.out.cell 2
              have r_a3 : v4.cell? ⟨w.heap.size, 3, none⟩ = some (.slice B m d) := Ha_4.out.cell 3
              have r_a4 : v4.cell? ⟨w.heap.size, 4, none⟩ = some (.int .i64 l0) := Ha_4.out.cell 4
              have r_a5 : v4.cell? ⟨w.heap.size, 5, none⟩ = some (.int .i64 l1) := Ha_4.out.cell 5
              have r_a6 : v4.cell? ⟨w.heap.size, 6, none⟩ = some (.int .i64 l2) := Ha_4.out.cell 6
              have lt_b := Hb_4.out.lt
              have r_b0 : v4.cell? ⟨g1, 0, none⟩ = some (.int .i64 j0) := Hb_4.out.cell 0
              have r_b1 : v4.cell? ⟨g1, 1, none⟩ = some (.int .i64 u0) := Hb_4.out.cell 1
              have r_b2 : v4.cell? ⟨g1, 2, none⟩ = some (.slice A2 n2 c2) := Hb_4.out.cell 2
              have r_b3 : v4.cell? ⟨g1, 3, none⟩ = some (.slice B2 m2 d2) := Hb_4.out.cell 3
              have r_b4 : v4.cell? ⟨g1, 4, none⟩ = some (.int .i64 k0) := Hb_4.out.cell 4
              have r_b5 : v4.cell? ⟨g1, 5, none⟩ = some (.int .i64 k1) := Hb_4.out.cell 5
              have r_b6 : v4.cell? ⟨g1, 6, none⟩ = some (.int .i64 k2) := Hb_4.out.cell 6
              have hv : sameStateB i0 t0 l0 l1 l2 pl ql j0 u0 k0 k1 k2 pl2 ql2 = false := by unfold sameStateB; rw [Hq1.out, Hq2.out, Hq3.out, Hq4.out, Hq5.out, Hq6.out]; simp
              have HV := Lib.hid hv
              clear hv
              go_wp21
              go_ret
              exact ⟨ret_bool HV.out.symm, f4⟩
            | true =>
              rw [q6] at cc
              have Hq6 := Lib.hid q6
              clear q6
              go_wp2_with fail
              refine (cc).mono ?_
              rintro e v4 ⟨rfl, b4⟩
              have f4 := bthen f3 b4
              have z4 := b4.size
              have HP_4 := Lib.hid (HP_3.out.below b4)
              have HQ_4 := Lib.hid (HQ_3.out.below b4)
              have HU_4 := Lib.hid (HU_3.out.below b4)
              have HW_4 := Lib.hid (HW_3.out.below b4)
              have Ha_4 := Lib.hid (Ha_3.out.below b4)
              have Hb_4 := Lib.hid (Hb_3.out.below b4)
              clear lt_a r_a0 r_a1 r_a2 r_a3 r_a4 r_a5 r_a6 lt_b r_b0 r_b1 r_b2 r_b3 r_b4 r_b5 r_b6
              clear HP_3 HQ_3 HU_3 HW_3 Ha_3 Hb_3
              have lt_a := Ha_4.out.lt
              have r_a0 : v4.cell? ⟨w.heap.size, 0, none⟩ = some (.int .i64 i0) := Ha_4.out.cell 0
              have r_a1 : v4.cell? ⟨w.heap.size, 1, none⟩ = some (.int .i64 t0) := Ha_4.out.cell 1
              have r_a2 : v4.cell? ⟨w.heap.size, 2, none⟩ = some (.slice A n c) := Ha_4.out.cell 2
              have r_a3 : v4.cell? ⟨w.heap.size, 3, none⟩ = some (.slice B m d) := Ha_4.out.cell 3
              have r_a4 : v4.cell? ⟨w.heap.size, 4, none⟩ = some (.int .i64 l0) := Ha_4.out.cell 4
              have r_a5 : v4.cell? ⟨w.heap.size, 5, none⟩ = some (.int .i64 l1) := Ha_4.out.cell 5
              have r_a6 : v4.cell? ⟨w.heap.size, 6, none⟩ = some (.int .i64 l2) := Ha_4.out.cell 6
              have lt_b := Hb_4.out.lt
              have r_b0 : v4.cell? ⟨g1, 0, none⟩ = some (.int .i64 j0) := Hb_4.out.cell 0
              have r_b1 : v4.cell? ⟨g1, 1, none⟩ = some (.int .i64 u0) := Hb_4.out.cell 1
              have r_b2 : v4.cell? ⟨g1, 2, none⟩ = some (.slice A2 n2 c2) := Hb_4.out.cell 2
              have r_b3 : v4.cell? ⟨g1, 3, none⟩ = some (.slice B2 m2 d2) := Hb_4.out.cell 3
              have r_b4 : v4.cell? ⟨g1, 4, none⟩ = some (.int .i64 k0) := Hb_4.out.cell 4
              have r_b5 : v4.cell? ⟨g1, 5, none⟩ = some (.int .i64 k1) := Hb_4.out.cell 5
              have r_b6 : v4.cell? ⟨g1, 6, none⟩ = some (.int .i64 k2) := Hb_4.out.cell 6
              clear cc
              cases q7 : (l0 == k0) with
              | false =>
                have Hq7 := Lib.hid q7
                have hv : sameStateB i0 t0 l0 l1 l2 pl ql j0 u0 k0 k1 k2 pl2 ql2 = false := by unfold sameStateB; rw [Hq1.out, Hq2.out, Hq3.out, Hq4.out, Hq5.out, Hq6.out, Hq7.out]; simp
                have HV := Lib.hid hv
                clear hv
                go_wp21
                go_ret
                exact ⟨ret_bool HV.out.symm, f4⟩
              | true =>
                have Hq7 : Hid ((l0 == k0) = true) := q7
                cases q8 : (l1 == k1) with
                | false =>
                  have Hq8 := Lib.hid q8
                  have hv : sameStateB i0 t0 l0 l1 l2 pl ql j0 u0 k0 k1 k2 pl2 ql2 = false := by unfold sameStateB; rw [Hq1.out, Hq2.out, Hq3.out, Hq4.out, Hq5.out, Hq6.out, Hq7.out, Hq8.out]; simp
                  have HV := Lib.hid hv
                  clear hv
                  go_wp21
                  go_ret
                  exact ⟨ret_bool HV.out.symm, f4⟩
                | true =>
                  have Hq8 : Hid ((l1 == k1) = true) := q8
                  cases q9 : (l2 == k2) with
                  | false =>
                    have Hq9 := Lib.hid q9
                    have hv : sameStateB i0 t0 l0 l1 l2 pl ql j0 u0 k0 k1 k2 pl2 ql2 = false := by unfold sameStateB; rw [Hq1.out, Hq2.out, Hq3.out, Hq4.out, Hq5.out, Hq6.out, Hq7.out, Hq8.out, Hq9.out]; simp
                    have HV := Lib.hid hv
                    clear hv
                    go_wp21
                    go_ret
                    exact ⟨ret_bool HV.out.symm, f4⟩
                  | true =>
                    have Hq9 : Hid ((l2 == k2) = true) := q9
                    have hv : sameStateB i0 t0 l0 l1 l2 pl ql j0 u0 k0 k1 k2 pl2 ql2 = true := by unfold sameStateB; rw [Hq1.out, Hq2.out, Hq3.out, Hq4.out, Hq5.out, Hq6.out, Hq7.out, Hq8.out, Hq9.out]; rfl
                    have HV := Lib.hid hv
                    clear hv
                    go_wp21
                    go_ret
                    exact ⟨ret_bool HV.out.symm, f4⟩
set_option maxRecDepth 100000 in
set_option maxHeartbeats 4000000 in
theorem specSameState_any (A : Option Addr) (n c : Nat) (B : Option Addr) (m d : Nat) (i0 t0 l0 l1 l2 : Int) (A2 : Option Addr) (n2 c2 : Nat) (B2 : Option Addr) (m2 d2 : Nat) (j0 u0 k0 k1 k2 : Int) (pl : List Pr) (ql : List Jb) (pl2 : List Pr) (ql2 : List Jb) (w : World) (hP : Sl w 2 A n (PR pl)) (hQ : Sl w 5 B m (JB ql)) (hU : Sl w 2 A2 n2 (PR pl2)) (hW : Sl w 5 B2 m2 (JB ql2)) (hl : pl.length = n) (hr : ql.length = m) (hl2 : pl2.length = n2) (hr2 : ql2.length = m2) (hn : n ≤ maxLen) (hm : m ≤ maxLen) (hn2 : n2 ≤ maxLen) (hm2 : m2 ≤ maxLen) :
    Calls Try.prog 15 #[.agg #[.int .i64 i0, .int .i64 t0, .slice A n c, .slice B m d, .int .i64 l0, .int .i64 l1, .int .i64 l2], .agg #[.int .i64 j0, .int .i64 u0, .slice A2 n2 c2, .slice B2 m2 d2, .int .i64 k0, .int .i64 k1, .int .i64 k2]] w fun e' w' => e' = .returned (.bool (sameStateB i0 t0 l0 l1 l2 pl ql j0 u0 k0 k1 k2 pl2 ql2)) ∧ Below w.heap.size w w' := by
  have hL := Lib.hid hl
  have hR := Lib.hid hr
  have hL2 := Lib.hid hl2
  have hR2 := Lib.hid hr2
  have HP := Lib.hid hP
  have HQ := Lib.hid hQ
  have HU := Lib.hid hU
  have HW := Lib.hid hW
  clear hP hQ hU hW hl hr hl2 hr2
  go_enter Try.func15, Try.ntmps15
  go_wp2_with fail
  refine calls_named ?_
  rintro v0 hv0
  have f0 : Below w.heap.size w v0 := by rw [hv0]; (repeat' (first | (with_reducible exact Below.refl _ _) | (with_reducible assumption) | (with_reducible refine Below.alloc ?_ ?_ _) | (with_reducible refine Below.drew ?_) | (with_reducible refine Below.setCell ?_ ?_ _) | (with_reducible refine bstep (by assumption) ?_ ?_) | (with_reducible exact Nat.le_refl _) | omega | (simp [*]; done) | (simp [*]; omega)))
  have z0 : w.heap.size + 2 ≤ v0.heap.size := by rw [hv0]; simp [size_set]
  have HP_0 := Lib.hid (HP.out.below f0)
  have HP_lt := Lib.hid (fun hn => HP.out.lt hn)
  have HQ_0 := Lib.hid (HQ.out.below f0)
  have HQ_lt := Lib.hid (fun hn => HQ.out.lt hn)
  have HU_0 := Lib.hid (HU.out.below f0)
  have HU_lt := Lib.hid (fun hn => HU.out.lt hn)
  have HW_0 := Lib.hid (HW.out.below f0)
  have HW_lt := Lib.hid (fun hn => HW.out.lt hn)
  have Ha_0 : Hid (Blk v0 w.heap.size 34 #[.int .i64 i0, .int .i64 t0, .slice A n c, .slice B m d, .int .i64 l0, .int .i64 l1, .int .i64 l2]) := by rw [hv0]; exact (Blk.new_at _ _ _ _ (by simp)).alloc _
  have Hb_0 : Hid (Blk v0 (w.heap.size + 1) 34 #[.int .i64 j0, .int .i64 u0, .slice A2 n2 c2, .slice B2 m2 d2, .int .i64 k0, .int .i64 k1, .int .i64 k2]) := by rw [hv0]; exact Blk.new_at _ _ _ _ (by simp)
  clear hv0
  generalize hg1 : w.heap.size + 1 = g1 at *
  have lg1 : w.heap.size < g1 := by omega
  have lgz : g1 < v0.heap.size := by omega
  have nq1x0 : ¬ g1 = w.heap.size := by omega
  have nq0x1 : ¬ w.heap.size = g1 := by omega
  clear hg1
  have lt_a := Ha_0.out.lt
  have r_a0 : v0.cell? ⟨w.heap.size, 0, none⟩ = some (.int .i64 i0) := Ha_0.out.cell 0
  have r_a1 : v0.cell? ⟨w.heap.size, 1, none⟩ = some (.int .i64 t0) := Ha_0.out.cell 1
  have r_a2 : v0.cell? ⟨w.heap.size, 2, none⟩ = some (.slice A n c) := Ha_0.out.cell 2
  have r_a3 : v0.cell? ⟨w.heap.size, 3, none⟩ = some (.slice B m d) := Ha_0.out.cell 3
  have r_a4 : v0.cell? ⟨w.heap.size, 4, none⟩ = some (.int .i64 l0) := Ha_0.out.cell 4
  have r_a5 : v0.cell? ⟨w.heap.size, 5, none⟩ = some (.int .i64 l1) := Ha_0.out.cell 5
  have r_a6 : v0.cell? ⟨w.heap.size, 6, none⟩ = some (.int .i64 l2) := Ha_0.out.cell 6
  have lt_b := Hb_0.out.lt
  have r_b0 : v0.cell? ⟨g1, 0, none⟩ = some (.int .i64 j0) := Hb_0.out.cell 0
  have r_b1 : v0.cell? ⟨g1, 1, none⟩ = some (.int .i64 u0) := Hb_0.out.cell 1
  have r_b2 : v0.cell? ⟨g1, 2, none⟩ = some (.slice A2 n2 c2) := Hb_0.out.cell 2
  have r_b3 : v0.cell? ⟨g1, 3, none⟩ = some (.slice B2 m2 d2) := Hb_0.out.cell 3
  have r_b4 : v0.cell? ⟨g1, 4, none⟩ = some (.int .i64 k0) := Hb_0.out.cell 4
  have r_b5 : v0.cell? ⟨g1, 5, none⟩ = some (.int .i64 k1) := Hb_0.out.cell 5
  have r_b6 : v0.cell? ⟨g1, 6, none⟩ = some (.int .i64 k2) := Hb_0.out.cell 6
  have cc := specStateOk_any A n c B m d i0 t0 l0 l1 l2 pl ql v0 HP_0.out HQ_0.out hL.out hR.out hn hm
  cases q1 : (stateB i0 t0 l0 l1 l2 pl ql) with
  | false =>
    rw [q1] at cc
    have Hq1 := Lib.hid q1
    clear q1
    refine (cc).mono ?_
    rintro e v1 ⟨rfl, b1⟩
    have f1 := bthen f0 b1
    have z1 := b1.size
    have HP_1 := Lib.hid (HP_0.out.below b1)
    have HQ_1 := Lib.hid (HQ_0.out.below b1)
    have HU_1 := Lib.hid (HU_0.out.below b1)
    have HW_1 := Lib.hid (HW_0.out.below b1)
    have Ha_1 := Lib.hid (Ha_0.out.below b1)
    have Hb_1 := Lib.hid (Hb_0.out.below b1)
    clear lt_a r_a0 r_a1 r_a2 r_a3 r_a4 r_a5 r_a6 lt_b r_b0 r_b1 r_b2 r_b3 r_b4 r_b5 r_b6
    clear HP_0 HQ_0 HU_0 HW_0 Ha_0 Hb_0
    have lt_a := Ha_1.out.lt
    have r_a0 : v1.cell? ⟨w.heap.size, 0, none⟩ = some (.int .i64 i0) := Ha_1.out.cell 0
    have r_a1 : v1.cell? ⟨w.heap.size, 1, none⟩ = some (.int .i64 t0) := Ha_1.out.cell 1
    have r_a2 : v1.cell? ⟨w.heap.size, 2, none⟩ = some (.slice A n c) := Ha_1.out.cell 2
    have r_a3 : v1.cell? ⟨w.heap.size, 3, none⟩ = some (.slice B m d) := Ha_1.out.cell 3
    have r_a4 : v1.cell? ⟨w.heap.size, 4, none⟩ = some (.int .i64 l0) := Ha_1.out.cell 4
    have r_a5 : v1.cell? ⟨w.heap.size, 5, none⟩ = some (.int .i64 l1) := Ha_1.out.cell 5
    have r_a6 : v1.cell? ⟨w.heap.size, 6, none⟩ = some (.int .i64 l2) := Ha_1.out.cell 6
    have lt_b := Hb_1.out.lt
    have r_b0 : v1.cell? ⟨g1, 0, none⟩ = some (.int .i64 j0) := Hb_1.out.cell 0
    have r_b1 : v1.cell? ⟨g1, 1, none⟩ = some (.int .i64 u0) := Hb_1.out.cell 1
    have r_b2 : v1.cell? ⟨g1, 2, none⟩ = some (.slice A2 n2 c2) := Hb_1.out.cell 2
    have r_b3 : v1.cell? ⟨g1, 3, none⟩ = some (.slice B2 m2 d2) := Hb_1.out.cell 3
    have r_b4 : v1.cell? ⟨g1, 4, none⟩ = some (.int .i64 k0) := Hb_1.out.cell 4
    have r_b5 : v1.cell? ⟨g1, 5, none⟩ = some (.int .i64 k1) := Hb_1.out.cell 5
    have r_b6 : v1.cell? ⟨g1, 6, none⟩ = some (.int .i64 k2) := Hb_1.out.cell 6
    have hv : sameStateB i0 t0 l0 l1 l2 pl ql j0 u0 k0 k1 k2 pl2 ql2 = false := by unfold sameStateB; rw [Hq1.out]; simp
    have HV := Lib.hid hv
    clear hv
    go_wp21
    go_ret
    exact ⟨ret_bool HV.out.symm, f1⟩
  | true =>
    rw [q1] at cc
    have Hq1 := Lib.hid q1
    clear q1
    refine (cc).mono ?_
    rintro e v1 ⟨rfl, b1⟩
    have f1 := bthen f0 b1
    have z1 := b1.size
    have HP_1 := Lib.hid (HP_0.out.below b1)
    have HQ_1 := Lib.hid (HQ_0.out.below b1)
    have HU_1 := Lib.hid (HU_0.out.below b1)
    have HW_1 := Lib.hid (HW_0.out.below b1)
    have Ha_1 := Lib.hid (Ha_0.out.below b1)
    have Hb_1 := Lib.hid (Hb_0.out.below b1)
    clear lt_a r_a0 r_a1 r_a2 r_a3 r_a4 r_a5 r_a6 lt_b r_b0 r_b1 r_b2 r_b3 r_b4 r_b5 r_b6
    clear HP_0 HQ_0 HU_0 HW_0 Ha_0 Hb_0
    have lt_a := Ha_1.out.lt
    have r_a0 : v1.cell? ⟨w.heap.size, 0, none⟩ = some (.int .i64 i0) := Ha_1.out.cell 0
    have r_a1 : v1.cell? ⟨w.heap.size, 1, none⟩ = some (.int .i64 t0) := Ha_1.out.cell 1
    have r_a2 : v1.cell? ⟨w.heap.size, 2, none⟩ = some (.slice A n c) := Ha_1.out.cell 2
    have r_a3 : v1.cell? ⟨w.heap.size, 3, none⟩ = some (.slice B m d) := Ha_1.out.cell 3
    have r_a4 : v1.cell? ⟨w.heap.size, 4, none⟩ = some (.int .i64 l0) := Ha_1.out.cell 4
    have r_a5 : v1.cell? ⟨w.heap.size, 5, none⟩ = some (.int .i64 l1) := Ha_1.out.cell 5
    have r_a6 : v1.cell? ⟨w.heap.size, 6, none⟩ = some (.int .i64 l2) := Ha_1.out.cell 6
    have lt_b := Hb_1.out.lt
    have r_b0 : v1.cell? ⟨g1, 0, none⟩ = some (.int .i64 j0) := Hb_1.out.cell 0
    have r_b1 : v1.cell? ⟨g1, 1, none⟩ = some (.int .i64 u0) := Hb_1.out.cell 1
    have r_b2 : v1.cell? ⟨g1, 2, none⟩ = some (.slice A2 n2 c2) := Hb_1.out.cell 2
    have r_b3 : v1.cell? ⟨g1, 3, none⟩ = some (.slice B2 m2 d2) := Hb_1.out.cell 3
    have r_b4 : v1.cell? ⟨g1, 4, none⟩ = some (.int .i64 k0) := Hb_1.out.cell 4
    have r_b5 : v1.cell? ⟨g1, 5, none⟩ = some (.int .i64 k1) := Hb_1.out.cell 5
    have r_b6 : v1.cell? ⟨g1, 6, none⟩ = some (.int .i64 k2) := Hb_1.out.cell 6
    clear cc
    have cc := specStateOk_any A2 n2 c2 B2 m2 d2 j0 u0 k0 k1 k2 pl2 ql2 v1 HU_1.out HW_1.out hL2.out hR2.out hn2 hm2
    cases q2 : (stateB j0 u0 k0 k1 k2 pl2 ql2) with
    | false =>
      rw [q2] at cc
      have Hq2 := Lib.hid q2
      clear q2
      go_wp2_with fail
      refine (cc).mono ?_
      rintro e v2 ⟨rfl, b2⟩
      have f2 := bthen f1 b2
      have z2 := b2.size
      have HP_2 := Lib.hid (HP_1.out.below b2)
      have HQ_2 := Lib.hid (HQ_1.out.below b2)
      have HU_2 := Lib.hid (HU_1.out.below b2)
      have HW_2 := Lib.hid (HW_1.out.below b2)
      have Ha_2 := Lib.hid (Ha_1.out.below b2)
      have Hb_2 := Lib.hid (Hb_1.out.below b2)
      clear lt_a r_a0 r_a1 r_a2 r_a3 r_a4 r_a5 r_a6 lt_b r_b0 r_b1 r_b2 r_b3 r_b4 r_b5 r_b6
      clear HP_1 HQ_1 HU_1 HW_1 Ha_1 Hb_1
      have lt_a := Ha_2.out.lt
      have r_a0 : v2.cell? ⟨w.heap.size, 0, none⟩ = some (.int .i64 i0) := Ha_2.out.cell 0
      have r_a1 : v2.cell? ⟨w.heap.size, 1, none⟩ = some (.int .i64 t0) := Ha_2.out.cell 1
      have r_a2 : v2.cell? ⟨w.heap.size, 2, none⟩ = some (.slice A n c) := Ha_2.out.cell 2
      have r_a3 : v2.cell? ⟨w.heap.size, 3, none⟩ = some (.slice B m d) := Ha_2.out.cell 3
      have r_a4 : v2.cell? ⟨w.heap.size, 4, none⟩ = some (.int .i64 l0) := Ha_2.out.cell 4
      have r_a5 : v2.cell? ⟨w.heap.size, 5, none⟩ = some (.int .i64 l1) := Ha_2.out.cell 5
      have r_a6 : v2.cell? ⟨w.heap.size, 6, none⟩ = some (.int .i64 l2) := Ha_2.out.cell 6
      have lt_b := Hb_2.out.lt
      have r_b0 : v2.cell? ⟨g1, 0, none⟩ = some (.int .i64 j0) := Hb_2.out.cell 0
      have r_b1 : v2.cell? ⟨g1, 1, none⟩ = some (.int .i64 u0) := Hb_2.out.cell 1
      have r_b2 : v2.cell? ⟨g1, 2, none⟩ = some (.slice A2 n2 c2) := Hb_2.out.cell 2
      have r_b3 : v2.cell? ⟨g1, 3, none⟩ = some (.slice B2 m2 d2) := Hb_2.out.cell 3
      have r_b4 : v2.cell? ⟨g1, 4, none⟩ = some (.int .i64 k0) := Hb_2.out.cell 4
      have r_b5 : v2.cell? ⟨g1, 5, none⟩ = some (.int .i64 k1) := Hb_2.out.cell 5
      have r_b6 : v2.cell? ⟨g1, 6, none⟩ = some (.int .i64 k2) := Hb_2.out.cell 6
      have hv : sameStateB i0 t0 l0 l1 l2 pl ql j0 u0 k0 k1 k2 pl2 ql2 = false := by unfold sameStateB; rw [Hq1.out, Hq2.out]; simp
      have HV := Lib.hid hv
      clear hv
      go_wp21
      go_ret
      exact ⟨ret_bool HV.out.symm, f2⟩
    | true =>
      rw [q2] at cc
      have Hq2 := Lib.hid q2
      clear q2
      go_wp2_with fail
      refine (cc).mono ?_
      rintro e v2 ⟨rfl, b2⟩
      have f2 := bthen f1 b2
      have z2 := b2.size
      have HP_2 := Lib.hid (HP_1.out.below b2)
      have HQ_2 := Lib.hid (HQ_1.out.below b2)
      have HU_2 := Lib.hid (HU_1.out.below b2)
      have HW_2 := Lib.hid (HW_1.out.below b2)
      have Ha_2 := Lib.hid (Ha_1.out.below b2)
      have Hb_2 := Lib.hid (Hb_1.out.below b2)
      clear lt_a r_a0 r_a1 r_a2 r_a3 r_a4 r_a5 r_a6 lt_b r_b0 r_b1 r_b2 r_b3 r_b4 r_b5 r_b6
      clear HP_1 HQ_1 HU_1 HW_1 Ha_1 Hb_1
      have lt_a := Ha_2.out.lt
      have r_a0 : v2.cell? ⟨w.heap.size, 0, none⟩ = some (.int .i64 i0) := Ha_2.out.cell 0
      have r_a1 : v2.cell? ⟨w.heap.size, 1, none⟩ = some (.int .i64 t0) := Ha_2.out.cell 1
      have r_a2 : v2.cell? ⟨w.heap.size, 2, none⟩ = some (.slice A n c) := Ha_2.out.cell 2
      have r_a3 : v2.cell? ⟨w.heap.size, 3, none⟩ = some (.slice B m d) := Ha_2.out.cell 3
      have r_a4 : v2.cell? ⟨w.heap.size, 4, none⟩ = some (.int .i64 l0) := Ha_2.out.cell 4
      have r_a5 : v2.cell? ⟨w.heap.size, 5, none⟩ = some (.int .i64 l1) := Ha_2.out.cell 5
      have r_a6 : v2.cell? ⟨w.heap.size, 6, none⟩ = some (.int .i64 l2) := Ha_2.out.cell 6
      have lt_b := Hb_2.out.lt
      have r_b0 : v2.cell? ⟨g1, 0, none⟩ = some (.int .i64 j0) := Hb_2.out.cell 0
      have r_b1 : v2.cell? ⟨g1, 1, none⟩ = some (.int .i64 u0) := Hb_2.out.cell 1
      have r_b2 : v2.cell? ⟨g1, 2, none⟩ = some (.slice A2 n2 c2) := Hb_2.out.cell 2
      have r_b3 : v2.cell? ⟨g1, 3, none⟩ = some (.slice B2 m2 d2) := Hb_2.out.cell 3
      have r_b4 : v2.cell? ⟨g1, 4, none⟩ = some (.int .i64 k0) := Hb_2.out.cell 4
      have r_b5 : v2.cell? ⟨g1, 5, none⟩ = some (.int .i64 k1) := Hb_2.out.cell 5
      have r_b6 : v2.cell? ⟨g1, 6, none⟩ = some (.int .i64 k2) := Hb_2.out.cell 6
      clear cc
      cases q3 : (i0 == j0) with
      | false =>
        have Hq3 := Lib.hid q3
        have hv : sameStateB i0 t0 l0 l1 l2 pl ql j0 u0 k0 k1 k2 pl2 ql2 = false := by unfold sameStateB; rw [Hq1.out, Hq2.out, Hq3.out]; simp
        have HV := Lib.hid hv
        clear hv
        go_wp21
        go_ret
        exact ⟨ret_bool HV.out.symm, f2⟩
      | true =>
        have Hq3 : Hid ((i0 == j0) = true) := q3
        cases q4 : (t0 == u0) with
        | false =>
          have Hq4 := Lib.hid q4
          have hv : sameStateB i0 t0 l0 l1 l2 pl ql j0 u0 k0 k1 k2 pl2 ql2 = false := by unfold sameStateB; rw [Hq1.out, Hq2.out, Hq3.out, Hq4.out]; simp
          have HV := Lib.hid hv
          clear hv
          go_wp21
          go_ret
          exact ⟨ret_bool HV.out.symm, f2⟩
        | true =>
          have Hq4 : Hid ((t0 == u0) = true) := q4
          have cc := specSamePairs_any A A2 n n2 c c2 pl pl2 v2 HP_2.out HU_2.out hL.out hL2.out hn hn2
          cases q5 : (samePairsB pl pl2) with
          | false =>
            rw [q5] at cc
            have Hq5 := Lib.hid q5
            clear q5
            go_wp2_with fail
            refine (cc).mono ?_
            rintro e v3 ⟨rfl, b3⟩
            have f3 := bthen f2 b3
            have z3 := b3.size
            have HP_3 := Lib.hid (HP_2.out.below b3)
            have HQ_3 := Lib.hid (HQ_2.out.below b3)
            have HU_3 := Lib.hid (HU_2.out.below b3)
            have HW_3 := Lib.hid (HW_2.out.below b3)
            have Ha_3 := Lib.hid (Ha_2.out.below b3)
            have Hb_3 := Lib.hid (Hb_2.out.below b3)
            clear lt_a r_a0 r_a1 r_a2 r_a3 r_a4 r_a5 r_a6 lt_b r_b0 r_b1 r_b2 r_b3 r_b4 r_b5 r_b6
            clear HP_2 HQ_2 HU_2 HW_2 Ha_2 Hb_2
            have lt_a := Ha_3.out.lt
            have r_a0 : v3.cell? ⟨w.heap.size, 0, none⟩ = some (.int .i64 i0) := Ha_3.out.cell 0
            have r_a1 : v3.cell? ⟨w.heap.size, 1, none⟩ = some (.int .i64 t0) := Ha_3.out.cell 1
            have r_a2 : v3.cell? ⟨w.heap.size, 2, none⟩ = some (.slice A n c) := Ha_3.out.cell 2
            have r_a3 : v3.cell? ⟨w.heap.size, 3, none⟩ = some (.slice B m d) := Ha_3.out.cell 3
            have r_a4 : v3.cell? ⟨w.heap.size, 4, none⟩ = some (.int .i64 l0) := Ha_3.out.cell 4
            have r_a5 : v3.cell? ⟨w.heap.size, 5, none⟩ = some (.int .i64 l1) := Ha_3.out.cell 5
            have r_a6 : v3.cell? ⟨w.heap.size, 6, none⟩ = some (.int .i64 l2) := Ha_3.out.cell 6
            have lt_b := Hb_3.out.lt
            have r_b0 : v3.cell? ⟨g1, 0, none⟩ = some (.int .i64 j0) := Hb_3.out.cell 0
            have r_b1 : v3.cell? ⟨g1, 1, none⟩ = some (.int .i64 u0) := Hb_3.out.cell 1
            have r_b2 : v3.cell? ⟨g1, 2, none⟩ = some (.slice A2 n2 c2) := Hb_3.out.cell 2
            have r_b3 : v3.cell? ⟨g1, 3, none⟩ = some (.slice B2 m2 d2) := Hb_3.out.cell 3
            have r_b4 : v3.cell? ⟨g1, 4, none⟩ = some (.int .i64 k0) := Hb_3.out.cell 4
            have r_b5 : v3.cell? ⟨g1, 5, none⟩ = some (.int .i64 k1) := Hb_3.out.cell 5
            have r_b6 : v3.cell? ⟨g1, 6, none⟩ = some (.int .i64 k2) := Hb_3.out.cell 6
            have hv : sameStateB i0 t0 l0 l1 l2 pl ql j0 u0 k0 k1 k2 pl2 ql2 = false := by unfold sameStateB; rw [Hq1.out, Hq2.out, Hq3.out, Hq4.out, Hq5.out]; simp
            have HV := Lib.hid hv
            clear hv
            go_wp21
            go_ret
            exact ⟨ret_bool HV.out.symm, f3⟩
          | true =>
            rw [q5] at cc
            have Hq5 := Lib.hid q5
            clear q5
            go_wp2_with fail
            refine (cc).mono ?_
            rintro e v3 ⟨rfl, b3⟩
            have f3 := bthen f2 b3
            have z3 := b3.size
            have HP_3 := Lib.hid (HP_2.out.below b3)
            have HQ_3 := Lib.hid (HQ_2.out.below b3)
            have HU_3 := Lib.hid (HU_2.out.below b3)
            have HW_3 := Lib.hid (HW_2.out.below b3)
            have Ha_3 := Lib.hid (Ha_2.out.below b3)
            have Hb_3 := Lib.hid (Hb_2.out.below b3)
            clear lt_a r_a0 r_a1 r_a2 r_a3 r_a4 r_a5 r_a6 lt_b r_b0 r_b1 r_b2 r_b3 r_b4 r_b5 r_b6
            clear HP_2 HQ_2 HU_2 HW_2 Ha_2 Hb_2
            have lt_a := Ha_3.out.lt
            have r_a0 : v3.cell? ⟨w.heap.size, 0, none⟩ = some (.int .i64 i0) := Ha_3.out.cell 0
            have r_a1 : v3.cell? ⟨w.heap.size, 1, none⟩ = some (.int .i64 t0) := Ha_3.out.cell 1
            have r_a2 : v3.cell? ⟨w.heap.size, 2, none⟩ = some (.slice A n c) := Ha_3.out.cell 2
            have r_a3 : v3.cell? ⟨w.heap.size, 3, none⟩ = some (.slice B m d) := Ha_3.out.cell 3
            have r_a4 : v3.cell? ⟨w.heap.size, 4, none⟩ = some (.int .i64 l0) := Ha_3.out.cell 4
            have r_a5 : v3.cell? ⟨w.heap.size, 5, none⟩ = some (.int .i64 l1) := Ha_3.out.cell 5
            have r_a6 : v3.cell? ⟨w.heap.size, 6, none⟩ = some (.int .i64 l2) := Ha_3.out.cell 6
            have lt_b := Hb_3.out.lt
            have r_b0 : v3.cell? ⟨g1, 0, none⟩ = some (.int .i64 j0) := Hb_3.out.cell 0
            have r_b1 : v3.cell? ⟨g1, 1, none⟩ = some (.int .i64 u0) := Hb_3.out.cell 1
            have r_b2 : v3.cell? ⟨g1, 2, none⟩ = some (.slice A2 n2 c2) := Hb_3.out.cell 2
            have r_b3 : v3.cell? ⟨g1, 3, none⟩ = some (.slice B2 m2 d2) := Hb_3.out.cell 3
            have r_b4 : v3.cell? ⟨g1, 4, none⟩ = some (.int .i64 k0) := Hb_3.out.cell 4
            have r_b5 : v3.cell? ⟨g1, 5, none⟩ = some (.int .i64 k1) := Hb_3.out.cell 5
            have r_b6 : v3.cell? ⟨g1, 6, none⟩ = some (.int .i64 k2) := Hb_3.out.cell 6
            clear cc
            clear q3 q4
            have cc := specSameJobs_any B B2 m m2 d d2 ql ql2 v3 HQ_3.out HW_3.out hR.out hR2.out hm hm2
            cases q6 : (sameJobsB ql ql2) with
            | false =>
              rw [q6] at cc
              have Hq6 := Lib.hid q6
              clear q6
              go_wp2_with fail
              refine (cc).mono ?_
              rintro e v4 ⟨rfl, b4⟩
              have f4 := bthen f3 b4
              have z4 := b4.size
              have HP_4 := Lib.hid (HP_3.out.below b4)
              have HQ_4 := Lib.hid (HQ_3.out.below b4)
              have HU_4 := Lib.hid (HU_3.out.below b4)
              have HW_4 := Lib.hid (HW_3.out.below b4)
              have Ha_4 := Lib.hid (Ha_3.out.below b4)
              have Hb_4 := Lib.hid (Hb_3.out.below b4)
              clear lt_a r_a0 r_a1 r_a2 r_a3 r_a4 r_a5 r_a6 lt_b r_b0 r_b1 r_b2 r_b3 r_b4 r_b5 r_b6
              clear HP_3 HQ_3 HU_3 HW_3 Ha_3 Hb_3
              have lt_a := Ha_4.out.lt
              have r_a0 : v4.cell? ⟨w.heap.size, 0, none⟩ = some (.int .i64 i0) := Ha_4.out.cell 0
              have r_a1 : v4.cell? ⟨w.heap.size, 1, none⟩ = some (.int .i64 t0) := Ha_4.out.cell 1
              have r_a2 : v4.cell? ⟨w.heap.size, 2, none⟩ = some (.slice A n c) := Ha_4.out.cell 2
              have r_a3 : v4.cell? ⟨w.heap.size, 3, none⟩ = some (.slice B m d) := Ha_4.out.cell 3
              have r_a4 : v4.cell? ⟨w.heap.size, 4, none⟩ = some (.int .i64 l0) := Ha_4.out.cell 4
              have r_a5 : v4.cell? ⟨w.heap.size, 5, none⟩ = some (.int .i64 l1) := Ha_4.out.cell 5
              have r_a6 : v4.cell? ⟨w.heap.size, 6, none⟩ = some (.int .i64 l2) := Ha_4.out.cell 6
              have lt_b := Hb_4.out.lt
              have r_b0 : v4.cell? ⟨g1, 0, none⟩ = some (.int .i64 j0) := Hb_4.out.cell 0
              have r_b1 : v4.cell? ⟨g1, 1, none⟩ = some (.int .i64 u0) := Hb_4.out.cell 1
              have r_b2 : v4.cell? ⟨g1, 2, none⟩ = some (.slice A2 n2 c2) := Hb_4.out.cell 2
              have r_b3 : v4.cell? ⟨g1, 3, none⟩ = some (.slice B2 m2 d2) := Hb_4.out.cell 3
              have r_b4 : v4.cell? ⟨g1, 4, none⟩ = some (.int .i64 k0) := Hb_4.out.cell 4
              have r_b5 : v4.cell? ⟨g1, 5, none⟩ = some (.int .i64 k1) := Hb_4.out.cell 5
              have r_b6 : v4.cell? ⟨g1, 6, none⟩ = some (.int .i64 k2) := Hb_4.out.cell 6
              have hv : sameStateB i0 t0 l0 l1 l2 pl ql j0 u0 k0 k1 k2 pl2 ql2 = false := by unfold sameStateB; rw [Hq1.out, Hq2.out, Hq3.out, Hq4.out, Hq5.out, Hq6.out]; simp
              have HV := Lib.hid hv
              clear hv
              go_wp21
              go_ret
              exact ⟨ret_bool HV.out.symm, f4⟩
            | true =>
              rw [q6] at cc
              have Hq6 := Lib.hid q6
              clear q6
              go_wp2_with fail
              refine (cc).mono ?_
              rintro e v4 ⟨rfl, b4⟩
              have f4 := bthen f3 b4
              have z4 := b4.size
              have HP_4 := Lib.hid (HP_3.out.below b4)
              have HQ_4 := Lib.hid (HQ_3.out.below b4)
              have HU_4 := Lib.hid (HU_3.out.below b4)
              have HW_4 := Lib.hid (HW_3.out.below b4)
              have Ha_4 := Lib.hid (Ha_3.out.below b4)
              have Hb_4 := Lib.hid (Hb_3.out.below b4)
              clear lt_a r_a0 r_a1 r_a2 r_a3 r_a4 r_a5 r_a6 lt_b r_b0 r_b1 r_b2 r_b3 r_b4 r_b5 r_b6
              clear HP_3 HQ_3 HU_3 HW_3 Ha_3 Hb_3
              have lt_a := Ha_4.out.lt
              have r_a0 : v4.cell? ⟨w.heap.size, 0, none⟩ = some (.int .i64 i0) := Ha_4.out.cell 0
              have r_a1 : v4.cell? ⟨w.heap.size, 1, none⟩ = some (.int .i64 t0) := Ha_4.out.cell 1
              have r_a2 : v4.cell? ⟨w.heap.size, 2, none⟩ = some (.slice A n c) := Ha_4.out.cell 2
              have r_a3 : v4.cell? ⟨w.heap.size, 3, none⟩ = some (.slice B m d) := Ha_4.out.cell 3
              have r_a4 : v4.cell? ⟨w.heap.size, 4, none⟩ = some (.int .i64 l0) := Ha_4.out.cell 4
              have r_a5 : v4.cell? ⟨w.heap.size, 5, none⟩ = some (.int .i64 l1) := Ha_4.out.cell 5
              have r_a6 : v4.cell? ⟨w.heap.size, 6, none⟩ = some (.int .i64 l2) := Ha_4.out.cell 6
              have lt_b := Hb_4.out.lt
              have r_b0 : v4.cell? ⟨g1, 0, none⟩ = some (.int .i64 j0) := Hb_4.out.cell 0
              have r_b1 : v4.cell? ⟨g1, 1, none⟩ = some (.int .i64 u0) := Hb_4.out.cell 1
              have r_b2 : v4.cell? ⟨g1, 2, none⟩ = some (.slice A2 n2 c2) := Hb_4.out.cell 2
              have r_b3 : v4.cell? ⟨g1, 3, none⟩ = some (.slice B2 m2 d2) := Hb_4.out.cell 3
              have r_b4 : v4.cell? ⟨g1, 4, none⟩ = some (.int .i64 k0) := Hb_4.out.cell 4
              have r_b5 : v4.cell? ⟨g1, 5, none⟩ = some (.int .i64 k1) := Hb_4.out.cell 5
              have r_b6 : v4.cell? ⟨g1, 6, none⟩ = some (.int .i64 k2) := Hb_4.out.cell 6
              clear cc
              cases q7 : (l0 == k0) with
              | false =>
                have Hq7 := Lib.hid q7
                have hv : sameStateB i0 t0 l0 l1 l2 pl ql j0 u0 k0 k1 k2 pl2 ql2 = false := by unfold sameStateB; rw [Hq1.out, Hq2.out, Hq3.out, Hq4.out, Hq5.out, Hq6.out, Hq7.out]; simp
                have HV := Lib.hid hv
                clear hv
                go_wp21
                go_ret
                exact ⟨ret_bool HV.out.symm, f4⟩
              | true =>
                have Hq7 : Hid ((l0 == k0) = true) := q7
                cases q8 : (l1 == k1) with
                | false =>
                  have Hq8 := Lib.hid q8
                  have hv : sameStateB i0 t0 l0 l1 l2 pl ql j0 u0 k0 k1 k2 pl2 ql2 = false := by unfold sameStateB; rw [Hq1.out, Hq2.out, Hq3.out, Hq4.out, Hq5.out, Hq6.out, Hq7.out, Hq8.out]; simp
                  have HV := Lib.hid hv
                  clear hv
                  go_wp21
                  go_ret
                  exact ⟨ret_bool HV.out.symm, f4⟩
                | true =>
                  have Hq8 : Hid ((l1 == k1) = true) := q8
                  cases q9 : (l2 == k2) with
                  | false =>
                    have Hq9 := Lib.hid q9
                    have hv : sameStateB i0 t0 l0 l1 l2 pl ql j0 u0 k0 k1 k2 pl2 ql2 = false := by unfold sameStateB; rw [Hq1.out, Hq2.out, Hq3.out, Hq4.out, Hq5.out, Hq6.out, Hq7.out, Hq8.out, Hq9.out]; simp
                    have HV := Lib.hid hv
                    clear hv
                    go_wp21
                    go_ret
                    exact ⟨ret_bool HV.out.symm, f4⟩
                  | true =>
                    have Hq9 : Hid ((l2 == k2) = true) := q9
                    have hv : sameStateB i0 t0 l0 l1 l2 pl ql j0 u0 k0 k1 k2 pl2 ql2 = true := by unfold sameStateB; rw [Hq1.out, Hq2.out, Hq3.out, Hq4.out, Hq5.out, Hq6.out, Hq7.out, Hq8.out, Hq9.out]; rfl
                    have HV := Lib.hid hv
                    clear hv
                    go_wp21
                    go_ret
                    exact ⟨ret_bool HV.out.symm, f4⟩
end Go.Proofs.Ytodkcanhlpgpgaa

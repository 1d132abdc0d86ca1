/- Whether an entry fires its job: fires, FiresIn, the program's and the reference's. -/
import Derived.Test.YtodkcanhlpgpgaaS3
import Derived.Test.YtodkcanhlpgpgaaJ5
import Derived.Test.YtodkcanhlpgpgaaLease2
namespace Go.Proofs.Ytodkcanhlpgpgaa
set_option linter.unusedSimpArgs false
set_option linter.unusedVariables false
attribute [local go_sem] n_lt2 n_lt3 n_lt4 n_le2 n_le3
open Go.RowKit
def firesB (l0 l1 l2 : Int) (ql : List Jb) (et ec ek ea eb : Int) : Bool := (ek == 4) && ((jobAtV ql ea).2 && (((jobAtV ql ea).1.f == 0) && (decide ((jobAtV ql ea).1.d ≤ et) && holdsB l0 l1 l2 ec eb et)))
def firesInB (i0 t0 l0 l1 l2 : Int) (pl : List Pr) (ql : List Jb) (ex et ec es ek ea eb eg eh : Int) : Bool := nextInB i0 t0 l0 l1 l2 pl ql ex et ec es ek ea eb eg eh && firesB l0 l1 l2 ql et ec ek ea eb
theorem firesB_at {l0 l1 l2 : Int} {ql : List Jb} {et ec ek ea eb : Int} {ji jd jk jv jf : Int} {ok : Bool} (hk : (ek == 4) = true) (hj : jobAtV ql ea = (⟨ji, jd, jk, jv, jf⟩, ok)) :
    firesB l0 l1 l2 ql et ec ek ea eb = (ok && ((jf == 0) && (decide (jd ≤ et) && holdsB l0 l1 l2 ec eb et))) := by
  unfold firesB; rw [hj, hk]; rfl
theorem nextInB_jobs {i0 t0 l0 l1 l2 : Int} {pl : List Pr} {ql : List Jb} {ex et ec es ek ea eb eg eh : Int} (h : nextInB i0 t0 l0 l1 l2 pl ql ex et ec es ek ea eb eg eh = true) : jobsB ql = true := by
  unfold nextInB stateB at h
  simp only [Bool.and_eq_true] at h
  exact h.1.2.2.2.1
attribute [local go_sem] Ext.cell Ext.frozen
theorem jopen_any (a b c d e : Int) (w : World) :
    Calls Try.prog 108 #[.agg #[.int .i64 a, .int .i64 b, .int .i64 c, .int .i64 d, .int .i64 e]] w fun e' w' => e' = .returned (.bool (e == 0)) ∧ Below w.heap.size w w' := by
  go_enter Try.func108, Try.ntmps108
  go_wp2
  go_ret
  exact ⟨rfl, by (repeat' (first | (with_reducible exact Below.refl _ _) | (with_reducible assumption) | (with_reducible refine Below.alloc ?_ ?_ _) | (with_reducible refine Below.drew ?_) | (with_reducible refine Below.setCell ?_ ?_ _) | (with_reducible refine bstep (by assumption) ?_ ?_) | (with_reducible exact Nat.le_refl _) | omega | (simp [*]; done) | (simp [*]; omega)))⟩
set_option maxRecDepth 100000 in
set_option maxHeartbeats 2000000 in
theorem fires_any (A : Option Addr) (n c : Nat) (B : Option Addr) (m d : Nat) (i0 t0 l0 l1 l2 : Int) (ql : List Jb) (ex et ec es ek ea eb eg eh : Int) (w : World) (hQ : Sl w 5 B m (JB ql)) (hr : ql.length = m) (hm : m ≤ maxLen) :
    Calls Try.prog 62 #[.agg #[.int .i64 i0, .int .i64 t0, .slice A n c, .slice B m d, .int .i64 l0, .int .i64 l1, .int .i64 l2], .agg #[.int .i64 ex, .int .i64 et, .int .i64 ec, .int .i64 es, .int .i64 ek, .int .i64 ea, .int .i64 eb, .int .i64 eg, .int .i64 eh]] w fun e' w' => e' = .returned (.bool (firesB l0 l1 l2 ql et ec ek ea eb)) ∧ Below w.heap.size w w' := by
  have hR := Lib.hid hr
  have HQ := Lib.hid hQ
  clear hQ hr
  cases q1 : (ek == 4) with
  | false =>
    have HV := Lib.hid (show firesB l0 l1 l2 ql et ec ek ea eb = false by unfold firesB; rw [q1]; rfl)
    have n1 : (ek != 4) = true := by rw [bne, q1]; rfl
    go_enter Try.func62, Try.ntmps62
    go_wp21
    go_ret
    exact ⟨ret_bool HV.out.symm, by (repeat' (first | (with_reducible exact Below.refl _ _) | (with_reducible assumption) | (with_reducible refine Below.alloc ?_ ?_ _) | (with_reducible refine Below.drew ?_) | (with_reducible refine Below.setCell ?_ ?_ _) | (with_reducible refine bstep (by assumption) ?_ ?_) | (with_reducible exact Nat.le_refl _) | omega | (simp [*]; done) | (simp [*]; omega)))⟩
  | true =>
    have n1 : (ek != 4) = false := by rw [bne, q1]; rfl
    have HK := Lib.hid q1
    go_enter Try.func62, Try.ntmps62
    go_wp2_with fail
    refine calls_named ?_
    rintro v0 hv0
    have f0 : Below w.heap.size w v0 := by rw [hv0]; (repeat' (first | (with_reducible exact Below.refl _ _) | (with_reducible assumption) | (with_reducible refine Below.alloc ?_ ?_ _) | (with_reducible refine Below.drew ?_) | (with_reducible refine Below.setCell ?_ ?_ _) | (with_reducible refine bstep (by assumption) ?_ ?_) | (with_reducible exact Nat.le_refl _) | omega | (simp [*]; done) | (simp [*]; omega)))
    have z0 : w.heap.size + 2 ≤ v0.heap.size := by rw [hv0]; simp [size_set]
    have HQ_0 := Lib.hid (HQ.out.below f0)
    have HQ_lt := Lib.hid (fun hn => HQ.out.lt hn)
    have Ha_0 : Hid (Blk v0 w.heap.size 34 #[.int .i64 i0, .int .i64 t0, .slice A n c, .slice B m d, .int .i64 l0, .int .i64 l1, .int .i64 l2]) := by rw [hv0]; exact (Blk.new_at _ _ _ _ (by simp)).alloc _
    have Hb_0 : Hid (Blk v0 (w.heap.size + 1) 46 #[.int .i64 ex, .int .i64 et, .int .i64 ec, .int .i64 es, .int .i64 ek, .int .i64 ea, .int .i64 eb, .int .i64 eg, .int .i64 eh]) := by rw [hv0]; exact Blk.new_at _ _ _ _ (by simp)
    clear hv0
    generalize hg1 : w.heap.size + 1 = g1 at *
    have lg1 : w.heap.size < g1 := by omega
    have lgz : g1 < v0.heap.size := by omega
    have nq1x0 : ¬ g1 = w.heap.size := by omega
    have nq0x1 : ¬ w.heap.size = g1 := by omega
    clear hg1
    have lt_a := Ha_0.out.lt
    have r_a0 : v0.cell? ⟨w.heap.size, 0, none⟩ = some (.int .i64 i0) := Ha_0.out.cell 0
    have r_a1 : v0.cell? ⟨w.heap.size, 1, none⟩ = some (.int .i64 t0) := Ha_0.out.cell 1
    have r_a2 : v0.cell? ⟨w.heap.size, 2, none⟩ = some (.slice A n c) := Ha_0.out.cell 2
    have r_a3 : v0.cell? ⟨w.heap.size, 3, none⟩ = some (.slice B m d) := Ha_0.out.cell 3
    have r_a4 : v0.cell? ⟨w.heap.size, 4, none⟩ = some (.int .i64 l0) := Ha_0.out.cell 4
    have r_a5 : v0.cell? ⟨w.heap.size, 5, none⟩ = some (.int .i64 l1) := Ha_0.out.cell 5
    have r_a6 : v0.cell? ⟨w.heap.size, 6, none⟩ = some (.int .i64 l2) := Ha_0.out.cell 6
    have lt_b := Hb_0.out.lt
    have r_b0 : v0.cell? ⟨g1, 0, none⟩ = some (.int .i64 ex) := Hb_0.out.cell 0
    have r_b1 : v0.cell? ⟨g1, 1, none⟩ = some (.int .i64 et) := Hb_0.out.cell 1
    have r_b2 : v0.cell? ⟨g1, 2, none⟩ = some (.int .i64 ec) := Hb_0.out.cell 2
    have r_b3 : v0.cell? ⟨g1, 3, none⟩ = some (.int .i64 es) := Hb_0.out.cell 3
    have r_b4 : v0.cell? ⟨g1, 4, none⟩ = some (.int .i64 ek) := Hb_0.out.cell 4
    have r_b5 : v0.cell? ⟨g1, 5, none⟩ = some (.int .i64 ea) := Hb_0.out.cell 5
    have r_b6 : v0.cell? ⟨g1, 6, none⟩ = some (.int .i64 eb) := Hb_0.out.cell 6
    have r_b7 : v0.cell? ⟨g1, 7, none⟩ = some (.int .i64 eg) := Hb_0.out.cell 7
    have r_b8 : v0.cell? ⟨g1, 8, none⟩ = some (.int .i64 eh) := Hb_0.out.cell 8
    have cc := jobAtV_any B m d ql ea v0 HQ_0.out hR.out hm
    obtain ⟨J, hj⟩ : ∃ J, J = jobAtV ql ea := ⟨_, rfl⟩
    rw [← hj] at cc
    obtain ⟨⟨ji, jd, jk, jv, jf⟩, ok⟩ := J
    have HE := Lib.hid (firesB_at (l0 := l0) (l1 := l1) (l2 := l2) (et := et) (ec := ec) (eb := eb) HK.out hj.symm)
    clear hj
    dsimp only at cc
    cases ok with
    | false =>
      refine (cc).mono ?_
      rintro e v1 ⟨rfl, b1⟩
      have f1 := bthen f0 b1
      have z1 := b1.size
      have HQ_1 := Lib.hid (HQ_0.out.below b1)
      have Ha_1 := Lib.hid (Ha_0.out.below b1)
      have Hb_1 := Lib.hid (Hb_0.out.below b1)
      clear lt_a r_a0 r_a1 r_a2 r_a3 r_a4 r_a5 r_a6 lt_b r_b0 r_b1 r_b2 r_b3 r_b4 r_b5 r_b6 r_b7 r_b8
      clear HQ_0 Ha_0 Hb_0
      have lt_a := Ha_1.out.lt
      have r_a0 : v1.cell? ⟨w.heap.size, 0, none⟩ = some (.int .i64 i0) := Ha_1.out.cell 0
      have r_a1 : v1.cell? ⟨w.heap.size, 1, none⟩ = some (.int .i64 t0) := Ha_1.out.cell 1
      have r_a2 : v1.cell? ⟨w.heap.size, 2, none⟩ = some (.slice A n c) := Ha_1.out.cell 2
      have r_a3 : v1.cell? ⟨w.heap.size, 3, none⟩ = some (.slice B m d) := Ha_1.out.cell 3
      have r_a4 : v1.cell? ⟨w.heap.size, 4, none⟩ = some (.int .i64 l0) := Ha_1.out.cell 4
      have r_a5 : v1.cell? ⟨w.heap.size, 5, none⟩ = some (.int .i64 l1) := Ha_1.out.cell 5
      have r_a6 : v1.cell? ⟨w.heap.size, 6, none⟩ = some (.int .i64 l2) := Ha_1.out.cell 6
      have lt_b := Hb_1.out.lt
      have r_b0 : v1.cell? ⟨g1, 0, none⟩ = some (.int .i64 ex) := Hb_1.out.cell 0
      have r_b1 : v1.cell? ⟨g1, 1, none⟩ = some (.int .i64 et) := Hb_1.out.cell 1
      have r_b2 : v1.cell? ⟨g1, 2, none⟩ = some (.int .i64 ec) := Hb_1.out.cell 2
      have r_b3 : v1.cell? ⟨g1, 3, none⟩ = some (.int .i64 es) := Hb_1.out.cell 3
      have r_b4 : v1.cell? ⟨g1, 4, none⟩ = some (.int .i64 ek) := Hb_1.out.cell 4
      have r_b5 : v1.cell? ⟨g1, 5, none⟩ = some (.int .i64 ea) := Hb_1.out.cell 5
      have r_b6 : v1.cell? ⟨g1, 6, none⟩ = some (.int .i64 eb) := Hb_1.out.cell 6
      have r_b7 : v1.cell? ⟨g1, 7, none⟩ = some (.int .i64 eg) := Hb_1.out.cell 7
      have r_b8 : v1.cell? ⟨g1, 8, none⟩ = some (.int .i64 eh) := Hb_1.out.cell 8
      have HV := Lib.hid (show firesB l0 l1 l2 ql et ec ek ea eb = false from HE.out.trans (by simp))
      go_wp21
      go_ret
      exact ⟨ret_bool HV.out.symm, f1.alloc f1.size _⟩
    | true =>
      refine (cc).mono ?_
      rintro e v1 ⟨rfl, b1⟩
      have f1 := bthen f0 b1
      have z1 := b1.size
      have HQ_1 := Lib.hid (HQ_0.out.below b1)
      have Ha_1 := Lib.hid (Ha_0.out.below b1)
      have Hb_1 := Lib.hid (Hb_0.out.below b1)
      clear lt_a r_a0 r_a1 r_a2 r_a3 r_a4 r_a5 r_a6 lt_b r_b0 r_b1 r_b2 r_b3 r_b4 r_b5 r_b6 r_b7 r_b8
      clear HQ_0 Ha_0 Hb_0
      clear cc
      have lt_a := Ha_1.out.lt
      have r_a0 : v1.cell? ⟨w.heap.size, 0, none⟩ = some (.int .i64 i0) := Ha_1.out.cell 0
      have r_a1 : v1.cell? ⟨w.heap.size, 1, none⟩ = some (.int .i64 t0) := Ha_1.out.cell 1
      have r_a2 : v1.cell? ⟨w.heap.size, 2, none⟩ = some (.slice A n c) := Ha_1.out.cell 2
      have r_a3 : v1.cell? ⟨w.heap.size, 3, none⟩ = some (.slice B m d) := Ha_1.out.cell 3
      have r_a4 : v1.cell? ⟨w.heap.size, 4, none⟩ = some (.int .i64 l0) := Ha_1.out.cell 4
      have r_a5 : v1.cell? ⟨w.heap.size, 5, none⟩ = some (.int .i64 l1) := Ha_1.out.cell 5
      have r_a6 : v1.cell? ⟨w.heap.size, 6, none⟩ = some (.int .i64 l2) := Ha_1.out.cell 6
      have lt_b := Hb_1.out.lt
      have r_b0 : v1.cell? ⟨g1, 0, none⟩ = some (.int .i64 ex) := Hb_1.out.cell 0
      have r_b1 : v1.cell? ⟨g1, 1, none⟩ = some (.int .i64 et) := Hb_1.out.cell 1
      have r_b2 : v1.cell? ⟨g1, 2, none⟩ = some (.int .i64 ec) := Hb_1.out.cell 2
      have r_b3 : v1.cell? ⟨g1, 3, none⟩ = some (.int .i64 es) := Hb_1.out.cell 3
      have r_b4 : v1.cell? ⟨g1, 4, none⟩ = some (.int .i64 ek) := Hb_1.out.cell 4
      have r_b5 : v1.cell? ⟨g1, 5, none⟩ = some (.int .i64 ea) := Hb_1.out.cell 5
      have r_b6 : v1.cell? ⟨g1, 6, none⟩ = some (.int .i64 eb) := Hb_1.out.cell 6
      have r_b7 : v1.cell? ⟨g1, 7, none⟩ = some (.int .i64 eg) := Hb_1.out.cell 7
      have r_b8 : v1.cell? ⟨g1, 8, none⟩ = some (.int .i64 eh) := Hb_1.out.cell 8
      cases s1 : (jf == 0) with
      | false =>
        have HE2 := Lib.hid (HE.out.trans (show _ = false by rw [s1]; simp))
        go_wp2_with fail
        refine calls_named ?_
        rintro v2 hv2
        have f2 : Below w.heap.size w v2 := by rw [hv2]; (repeat' (first | (with_reducible exact Below.refl _ _) | (with_reducible assumption) | (with_reducible refine Below.alloc ?_ ?_ _) | (with_reducible refine Below.drew ?_) | (with_reducible refine Below.setCell ?_ ?_ _) | (with_reducible refine bstep (by assumption) ?_ ?_) | (with_reducible exact Nat.le_refl _) | omega | (simp [*]; done) | (simp [*]; omega)))
        have z2 : v1.heap.size + 1 ≤ v2.heap.size := by rw [hv2]; simp [size_set]
        have HQ_2 : Hid (Sl v2 5 B m (JB ql)) := by rw [hv2]; exact (HQ_1.out).alloc _
        have Ha_2 : Hid (Blk v2 w.heap.size 34 #[.int .i64 i0, .int .i64 t0, .slice A n c, .slice B m d, .int .i64 l0, .int .i64 l1, .int .i64 l2]) := by rw [hv2]; exact (Ha_1.out).alloc _
        have Hb_2 : Hid (Blk v2 g1 46 #[.int .i64 ex, .int .i64 et, .int .i64 ec, .int .i64 es, .int .i64 ek, .int .i64 ea, .int .i64 eb, .int .i64 eg, .int .i64 eh]) := by rw [hv2]; exact (Hb_1.out).alloc _
        have Hj_2 : Hid (Blk v2 v1.heap.size 70 #[.int .i64 ji, .int .i64 jd, .int .i64 jk, .int .i64 jv, .int .i64 jf]) := by rw [hv2]; exact (Blk.new_at _ _ _ _ (by simp [size_set]))
        clear lt_a r_a0 r_a1 r_a2 r_a3 r_a4 r_a5 r_a6 lt_b r_b0 r_b1 r_b2 r_b3 r_b4 r_b5 r_b6 r_b7 r_b8
        clear hv2 HQ_1 Ha_1 Hb_1
        have lt_a := Ha_2.out.lt
        have r_a0 : v2.cell? ⟨w.heap.size, 0, none⟩ = some (.int .i64 i0) := Ha_2.out.cell 0
        have r_a1 : v2.cell? ⟨w.heap.size, 1, none⟩ = some (.int .i64 t0) := Ha_2.out.cell 1
        have r_a2 : v2.cell? ⟨w.heap.size, 2, none⟩ = some (.slice A n c) := Ha_2.out.cell 2
        have r_a3 : v2.cell? ⟨w.heap.size, 3, none⟩ = some (.slice B m d) := Ha_2.out.cell 3
        have r_a4 : v2.cell? ⟨w.heap.size, 4, none⟩ = some (.int .i64 l0) := Ha_2.out.cell 4
        have r_a5 : v2.cell? ⟨w.heap.size, 5, none⟩ = some (.int .i64 l1) := Ha_2.out.cell 5
        have r_a6 : v2.cell? ⟨w.heap.size, 6, none⟩ = some (.int .i64 l2) := Ha_2.out.cell 6
        have lt_b := Hb_2.out.lt
        have r_b0 : v2.cell? ⟨g1, 0, none⟩ = some (.int .i64 ex) := Hb_2.out.cell 0
        have r_b1 : v2.cell? ⟨g1, 1, none⟩ = some (.int .i64 et) := Hb_2.out.cell 1
        have r_b2 : v2.cell? ⟨g1, 2, none⟩ = some (.int .i64 ec) := Hb_2.out.cell 2
        have r_b3 : v2.cell? ⟨g1, 3, none⟩ = some (.int .i64 es) := Hb_2.out.cell 3
        have r_b4 : v2.cell? ⟨g1, 4, none⟩ = some (.int .i64 ek) := Hb_2.out.cell 4
        have r_b5 : v2.cell? ⟨g1, 5, none⟩ = some (.int .i64 ea) := Hb_2.out.cell 5
        have r_b6 : v2.cell? ⟨g1, 6, none⟩ = some (.int .i64 eb) := Hb_2.out.cell 6
        have r_b7 : v2.cell? ⟨g1, 7, none⟩ = some (.int .i64 eg) := Hb_2.out.cell 7
        have r_b8 : v2.cell? ⟨g1, 8, none⟩ = some (.int .i64 eh) := Hb_2.out.cell 8
        have lt_j := Hj_2.out.lt
        have r_j0 : v2.cell? ⟨v1.heap.size, 0, none⟩ = some (.int .i64 ji) := Hj_2.out.cell 0
        have r_j1 : v2.cell? ⟨v1.heap.size, 1, none⟩ = some (.int .i64 jd) := Hj_2.out.cell 1
        have r_j2 : v2.cell? ⟨v1.heap.size, 2, none⟩ = some (.int .i64 jk) := Hj_2.out.cell 2
        have r_j3 : v2.cell? ⟨v1.heap.size, 3, none⟩ = some (.int .i64 jv) := Hj_2.out.cell 3
        have r_j4 : v2.cell? ⟨v1.heap.size, 4, none⟩ = some (.int .i64 jf) := Hj_2.out.cell 4
        have co := jopen_any ji jd jk jv jf v2
        rw [s1] at co
        clear s1
        refine (co).mono ?_
        rintro e v3 ⟨rfl, b3⟩
        have f3 := bthen f2 b3
        have z3 := b3.size
        have HQ_3 := Lib.hid (HQ_2.out.below b3)
        have Ha_3 := Lib.hid (Ha_2.out.below b3)
        have Hb_3 := Lib.hid (Hb_2.out.below b3)
        have Hj_3 := Lib.hid (Hj_2.out.below b3)
        clear lt_a r_a0 r_a1 r_a2 r_a3 r_a4 r_a5 r_a6 lt_b r_b0 r_b1 r_b2 r_b3 r_b4 r_b5 r_b6 r_b7 r_b8 lt_j r_j0 r_j1 r_j2 r_j3 r_j4
        clear HQ_2 Ha_2 Hb_2 Hj_2
        have lt_a := Ha_3.out.lt
        have r_a0 : v3.cell? ⟨w.heap.size, 0, none⟩ = some (.int .i64 i0) := Ha_3.out.cell 0
        have r_a1 : v3.cell? ⟨w.heap.size, 1, none⟩ = some (.int .i64 t0) := Ha_3.out.cell 1
        have r_a2 : v3.cell? ⟨w.heap.size, 2, none⟩ = some (.slice A n c) := Ha_3.out.cell 2
        have r_a3 : v3.cell? ⟨w.heap.size, 3, none⟩ = some (.slice B m d) := Ha_3.out.cell 3
        have r_a4 : v3.cell? ⟨w.heap.size, 4, none⟩ = some (.int .i64 l0) := Ha_3.out.cell 4
        have r_a5 : v3.cell? ⟨w.heap.size, 5, none⟩ = some (.int .i64 l1) := Ha_3.out.cell 5
        have r_a6 : v3.cell? ⟨w.heap.size, 6, none⟩ = some (.int .i64 l2) := Ha_3.out.cell 6
        have lt_b := Hb_3.out.lt
        have r_b0 : v3.cell? ⟨g1, 0, none⟩ = some (.int .i64 ex) := Hb_3.out.cell 0
        have r_b1 : v3.cell? ⟨g1, 1, none⟩ = some (.int .i64 et) := Hb_3.out.cell 1
        have r_b2 : v3.cell? ⟨g1, 2, none⟩ = some (.int .i64 ec) := Hb_3.out.cell 2
        have r_b3 : v3.cell? ⟨g1, 3, none⟩ = some (.int .i64 es) := Hb_3.out.cell 3
        have r_b4 : v3.cell? ⟨g1, 4, none⟩ = some (.int .i64 ek) := Hb_3.out.cell 4
        have r_b5 : v3.cell? ⟨g1, 5, none⟩ = some (.int .i64 ea) := Hb_3.out.cell 5
        have r_b6 : v3.cell? ⟨g1, 6, none⟩ = some (.int .i64 eb) := Hb_3.out.cell 6
        have r_b7 : v3.cell? ⟨g1, 7, none⟩ = some (.int .i64 eg) := Hb_3.out.cell 7
        have r_b8 : v3.cell? ⟨g1, 8, none⟩ = some (.int .i64 eh) := Hb_3.out.cell 8
        have lt_j := Hj_3.out.lt
        have r_j0 : v3.cell? ⟨v1.heap.size, 0, none⟩ = some (.int .i64 ji) := Hj_3.out.cell 0
        have r_j1 : v3.cell? ⟨v1.heap.size, 1, none⟩ = some (.int .i64 jd) := Hj_3.out.cell 1
        have r_j2 : v3.cell? ⟨v1.heap.size, 2, none⟩ = some (.int .i64 jk) := Hj_3.out.cell 2
        have r_j3 : v3.cell? ⟨v1.heap.size, 3, none⟩ = some (.int .i64 jv) := Hj_3.out.cell 3
        have r_j4 : v3.cell? ⟨v1.heap.size, 4, none⟩ = some (.int .i64 jf) := Hj_3.out.cell 4
        have HV := Lib.hid (show firesB l0 l1 l2 ql et ec ek ea eb = false from HE2.out)
        go_wp21
        go_ret
        exact ⟨ret_bool HV.out.symm, f3⟩
      | true =>
        go_wp2_with fail
        refine calls_named ?_
        rintro v2 hv2
        have f2 : Below w.heap.size w v2 := by rw [hv2]; (repeat' (first | (with_reducible exact Below.refl _ _) | (with_reducible assumption) | (with_reducible refine Below.alloc ?_ ?_ _) | (with_reducible refine Below.drew ?_) | (with_reducible refine Below.setCell ?_ ?_ _) | (with_reducible refine bstep (by assumption) ?_ ?_) | (with_reducible exact Nat.le_refl _) | omega | (simp [*]; done) | (simp [*]; omega)))
        have z2 : v1.heap.size + 1 ≤ v2.heap.size := by rw [hv2]; simp [size_set]
        have HQ_2 : Hid (Sl v2 5 B m (JB ql)) := by rw [hv2]; exact (HQ_1.out).alloc _
        have Ha_2 : Hid (Blk v2 w.heap.size 34 #[.int .i64 i0, .int .i64 t0, .slice A n c, .slice B m d, .int .i64 l0, .int .i64 l1, .int .i64 l2]) := by rw [hv2]; exact (Ha_1.out).alloc _
        have Hb_2 : Hid (Blk v2 g1 46 #[.int .i64 ex, .int .i64 et, .int .i64 ec, .int .i64 es, .int .i64 ek, .int .i64 ea, .int .i64 eb, .int .i64 eg, .int .i64 eh]) := by rw [hv2]; exact (Hb_1.out).alloc _
        have Hj_2 : Hid (Blk v2 v1.heap.size 70 #[.int .i64 ji, .int .i64 jd, .int .i64 jk, .int .i64 jv, .int .i64 jf]) := by rw [hv2]; exact (Blk.new_at _ _ _ _ (by simp [size_set]))
        clear lt_a r_a0 r_a1 r_a2 r_a3 r_a4 r_a5 r_a6 lt_b r_b0 r_b1 r_b2 r_b3 r_b4 r_b5 r_b6 r_b7 r_b8
        clear hv2 HQ_1 Ha_1 Hb_1
        have lt_a := Ha_2.out.lt
        have r_a0 : v2.cell? ⟨w.heap.size, 0, none⟩ = some (.int .i64 i0) := Ha_2.out.cell 0
        have r_a1 : v2.cell? ⟨w.heap.size, 1, none⟩ = some (.int .i64 t0) := Ha_2.out.cell 1
        have r_a2 : v2.cell? ⟨w.heap.size, 2, none⟩ = some (.slice A n c) := Ha_2.out.cell 2
        have r_a3 : v2.cell? ⟨w.heap.size, 3, none⟩ = some (.slice B m d) := Ha_2.out.cell 3
        have r_a4 : v2.cell? ⟨w.heap.size, 4, none⟩ = some (.int .i64 l0) := Ha_2.out.cell 4
        have r_a5 : v2.cell? ⟨w.heap.size, 5, none⟩ = some (.int .i64 l1) := Ha_2.out.cell 5
        have r_a6 : v2.cell? ⟨w.heap.size, 6, none⟩ = some (.int .i64 l2) := Ha_2.out.cell 6
        have lt_b := Hb_2.out.lt
        have r_b0 : v2.cell? ⟨g1, 0, none⟩ = some (.int .i64 ex) := Hb_2.out.cell 0
        have r_b1 : v2.cell? ⟨g1, 1, none⟩ = some (.int .i64 et) := Hb_2.out.cell 1
        have r_b2 : v2.cell? ⟨g1, 2, none⟩ = some (.int .i64 ec) := Hb_2.out.cell 2
        have r_b3 : v2.cell? ⟨g1, 3, none⟩ = some (.int .i64 es) := Hb_2.out.cell 3
        have r_b4 : v2.cell? ⟨g1, 4, none⟩ = some (.int .i64 ek) := Hb_2.out.cell 4
        have r_b5 : v2.cell? ⟨g1, 5, none⟩ = some (.int .i64 ea) := Hb_2.out.cell 5
        have r_b6 : v2.cell? ⟨g1, 6, none⟩ = some (.int .i64 eb) := Hb_2.out.cell 6
        have r_b7 : v2.cell? ⟨g1, 7, none⟩ = some (.int .i64 eg) := Hb_2.out.cell 7
        have r_b8 : v2.cell? ⟨g1, 8, none⟩ = some (.int .i64 eh) := Hb_2.out.cell 8
        have lt_j := Hj_2.out.lt
        have r_j0 : v2.cell? ⟨v1.heap.size, 0, none⟩ = some (.int .i64 ji) := Hj_2.out.cell 0
        have r_j1 : v2.cell? ⟨v1.heap.size, 1, none⟩ = some (.int .i64 jd) := Hj_2.out.cell 1
        have r_j2 : v2.cell? ⟨v1.heap.size, 2, none⟩ = some (.int .i64 jk) := Hj_2.out.cell 2
        have r_j3 : v2.cell? ⟨v1.heap.size, 3, none⟩ = some (.int .i64 jv) := Hj_2.out.cell 3
        have r_j4 : v2.cell? ⟨v1.heap.size, 4, none⟩ = some (.int .i64 jf) := Hj_2.out.cell 4
        have co := jopen_any ji jd jk jv jf v2
        rw [s1] at co
        have S1 := Lib.hid s1
        clear s1
        refine (co).mono ?_
        rintro e v3 ⟨rfl, b3⟩
        have f3 := bthen f2 b3
        have z3 := b3.size
        have HQ_3 := Lib.hid (HQ_2.out.below b3)
        have Ha_3 := Lib.hid (Ha_2.out.below b3)
        have Hb_3 := Lib.hid (Hb_2.out.below b3)
        have Hj_3 := Lib.hid (Hj_2.out.below b3)
        clear lt_a r_a0 r_a1 r_a2 r_a3 r_a4 r_a5 r_a6 lt_b r_b0 r_b1 r_b2 r_b3 r_b4 r_b5 r_b6 r_b7 r_b8 lt_j r_j0 r_j1 r_j2 r_j3 r_j4
        clear HQ_2 Ha_2 Hb_2 Hj_2
        clear co
        have lt_a := Ha_3.out.lt
        have r_a0 : v3.cell? ⟨w.heap.size, 0, none⟩ = some (.int .i64 i0) := Ha_3.out.cell 0
        have r_a1 : v3.cell? ⟨w.heap.size, 1, none⟩ = some (.int .i64 t0) := Ha_3.out.cell 1
        have r_a2 : v3.cell? ⟨w.heap.size, 2, none⟩ = some (.slice A n c) := Ha_3.out.cell 2
        have r_a3 : v3.cell? ⟨w.heap.size, 3, none⟩ = some (.slice B m d) := Ha_3.out.cell 3
        have r_a4 : v3.cell? ⟨w.heap.size, 4, none⟩ = some (.int .i64 l0) := Ha_3.out.cell 4
        have r_a5 : v3.cell? ⟨w.heap.size, 5, none⟩ = some (.int .i64 l1) := Ha_3.out.cell 5
        have r_a6 : v3.cell? ⟨w.heap.size, 6, none⟩ = some (.int .i64 l2) := Ha_3.out.cell 6
        have lt_b := Hb_3.out.lt
        have r_b0 : v3.cell? ⟨g1, 0, none⟩ = some (.int .i64 ex) := Hb_3.out.cell 0
        have r_b1 : v3.cell? ⟨g1, 1, none⟩ = some (.int .i64 et) := Hb_3.out.cell 1
        have r_b2 : v3.cell? ⟨g1, 2, none⟩ = some (.int .i64 ec) := Hb_3.out.cell 2
        have r_b3 : v3.cell? ⟨g1, 3, none⟩ = some (.int .i64 es) := Hb_3.out.cell 3
        have r_b4 : v3.cell? ⟨g1, 4, none⟩ = some (.int .i64 ek) := Hb_3.out.cell 4
        have r_b5 : v3.cell? ⟨g1, 5, none⟩ = some (.int .i64 ea) := Hb_3.out.cell 5
        have r_b6 : v3.cell? ⟨g1, 6, none⟩ = some (.int .i64 eb) := Hb_3.out.cell 6
        have r_b7 : v3.cell? ⟨g1, 7, none⟩ = some (.int .i64 eg) := Hb_3.out.cell 7
        have r_b8 : v3.cell? ⟨g1, 8, none⟩ = some (.int .i64 eh) := Hb_3.out.cell 8
        have lt_j := Hj_3.out.lt
        have r_j0 : v3.cell? ⟨v1.heap.size, 0, none⟩ = some (.int .i64 ji) := Hj_3.out.cell 0
        have r_j1 : v3.cell? ⟨v1.heap.size, 1, none⟩ = some (.int .i64 jd) := Hj_3.out.cell 1
        have r_j2 : v3.cell? ⟨v1.heap.size, 2, none⟩ = some (.int .i64 jk) := Hj_3.out.cell 2
        have r_j3 : v3.cell? ⟨v1.heap.size, 3, none⟩ = some (.int .i64 jv) := Hj_3.out.cell 3
        have r_j4 : v3.cell? ⟨v1.heap.size, 4, none⟩ = some (.int .i64 jf) := Hj_3.out.cell 4
        by_cases s2 : jd ≤ et
        rotate_left
        · have s3 : et < jd := by omega
          have HE2 := Lib.hid (HE.out.trans (show _ = false by rw [decide_eq_false s2]; simp))
          have HV := Lib.hid (show firesB l0 l1 l2 ql et ec ek ea eb = false from HE2.out)
          go_wp21
          go_ret
          exact ⟨ret_bool HV.out.symm, f3⟩
        have HE2 := Lib.hid (HE.out.trans (show _ = holdsB l0 l1 l2 ec eb et by rw [S1.out, decide_eq_true s2]; rfl))
        have ch := HoldsAt_any l0 l1 l2 ec eb et v3
        generalize holdsB l0 l1 l2 ec eb et = q at ch HE2
        go_wp2_with fail
        refine (ch).mono ?_
        rintro e v4 ⟨rfl, b4⟩
        have f4 := bthen f3 b4
        have z4 := b4.size
        have HQ_4 := Lib.hid (HQ_3.out.below b4)
        have Ha_4 := Lib.hid (Ha_3.out.below b4)
        have Hb_4 := Lib.hid (Hb_3.out.below b4)
        have Hj_4 := Lib.hid (Hj_3.out.below b4)
        clear lt_a r_a0 r_a1 r_a2 r_a3 r_a4 r_a5 r_a6 lt_b r_b0 r_b1 r_b2 r_b3 r_b4 r_b5 r_b6 r_b7 r_b8 lt_j r_j0 r_j1 r_j2 r_j3 r_j4
        clear HQ_3 Ha_3 Hb_3 Hj_3
        clear ch
        have lt_a := Ha_4.out.lt
        have r_a0 : v4.cell? ⟨w.heap.size, 0, none⟩ = some (.int .i64 i0) := Ha_4.out.cell 0
        have r_a1 : v4.cell? ⟨w.heap.size, 1, none⟩ = some (.int .i64 t0) := Ha_4.out.cell 1
        have r_a2 : v4.cell? ⟨w.heap.size, 2, none⟩ = some (.slice A n c) := Ha_4.out.cell 2
        have r_a3 : v4.cell? ⟨w.heap.size, 3, none⟩ = some (.slice B m d) := Ha_4.out.cell 3
        have r_a4 : v4.cell? ⟨w.heap.size, 4, none⟩ = some (.int .i64 l0) := Ha_4.out.cell 4
        have r_a5 : v4.cell? ⟨w.heap.size, 5, none⟩ = some (.int .i64 l1) := Ha_4.out.cell 5
        have r_a6 : v4.cell? ⟨w.heap.size, 6, none⟩ = some (.int .i64 l2) := Ha_4.out.cell 6
        have lt_b := Hb_4.out.lt
        have r_b0 : v4.cell? ⟨g1, 0, none⟩ = some (.int .i64 ex) := Hb_4.out.cell 0
        have r_b1 : v4.cell? ⟨g1, 1, none⟩ = some (.int .i64 et) := Hb_4.out.cell 1
        have r_b2 : v4.cell? ⟨g1, 2, none⟩ = some (.int .i64 ec) := Hb_4.out.cell 2
        have r_b3 : v4.cell? ⟨g1, 3, none⟩ = some (.int .i64 es) := Hb_4.out.cell 3
        have r_b4 : v4.cell? ⟨g1, 4, none⟩ = some (.int .i64 ek) := Hb_4.out.cell 4
        have r_b5 : v4.cell? ⟨g1, 5, none⟩ = some (.int .i64 ea) := Hb_4.out.cell 5
        have r_b6 : v4.cell? ⟨g1, 6, none⟩ = some (.int .i64 eb) := Hb_4.out.cell 6
        have r_b7 : v4.cell? ⟨g1, 7, none⟩ = some (.int .i64 eg) := Hb_4.out.cell 7
        have r_b8 : v4.cell? ⟨g1, 8, none⟩ = some (.int .i64 eh) := Hb_4.out.cell 8
        have lt_j := Hj_4.out.lt
        have r_j0 : v4.cell? ⟨v1.heap.size, 0, none⟩ = some (.int .i64 ji) := Hj_4.out.cell 0
        have r_j1 : v4.cell? ⟨v1.heap.size, 1, none⟩ = some (.int .i64 jd) := Hj_4.out.cell 1
        have r_j2 : v4.cell? ⟨v1.heap.size, 2, none⟩ = some (.int .i64 jk) := Hj_4.out.cell 2
        have r_j3 : v4.cell? ⟨v1.heap.size, 3, none⟩ = some (.int .i64 jv) := Hj_4.out.cell 3
        have r_j4 : v4.cell? ⟨v1.heap.size, 4, none⟩ = some (.int .i64 jf) := Hj_4.out.cell 4
        go_wp21
        go_ret
        exact ⟨ret_bool HE2.out.symm, f4⟩
set_option maxRecDepth 100000 in
set_option maxHeartbeats 2000000 in
theorem FiresIn_any (A : Option Addr) (n c : Nat) (B : Option Addr) (m d : Nat) (i0 t0 l0 l1 l2 : Int) (pl : List Pr) (ql : List Jb) (ex et ec es ek ea eb eg eh : Int) (w : World) (hP : Sl w 2 A n (PR pl)) (hQ : Sl w 5 B m (JB ql)) (hl : pl.length = n) (hr : ql.length = m) (hn : n ≤ maxLen) (hm : m ≤ maxLen) :
    Calls Try.prog 21 #[.agg #[.int .i64 i0, .int .i64 t0, .slice A n c, .slice B m d, .int .i64 l0, .int .i64 l1, .int .i64 l2], .agg #[.int .i64 ex, .int .i64 et, .int .i64 ec, .int .i64 es, .int .i64 ek, .int .i64 ea, .int .i64 eb, .int .i64 eg, .int .i64 eh]] w fun e' w' => e' = .returned (.bool (firesInB i0 t0 l0 l1 l2 pl ql ex et ec es ek ea eb eg eh)) ∧ Below w.heap.size w w' := by
  have hL := Lib.hid hl
  have hR := Lib.hid hr
  have HP := Lib.hid hP
  have HQ := Lib.hid hQ
  clear hP hQ hl hr
  go_enter Try.func21, Try.ntmps21
  go_wp2_with fail
  refine calls_named ?_
  rintro v0 hv0
  have f0 : Below w.heap.size w v0 := by rw [hv0]; (repeat' (first | (with_reducible exact Below.refl _ _) | (with_reducible assumption) | (with_reducible refine Below.alloc ?_ ?_ _) | (with_reducible refine Below.drew ?_) | (with_reducible refine Below.setCell ?_ ?_ _) | (with_reducible refine bstep (by assumption) ?_ ?_) | (with_reducible exact Nat.le_refl _) | omega | (simp [*]; done) | (simp [*]; omega)))
  have z0 : w.heap.size + 2 ≤ v0.heap.size := by rw [hv0]; simp [size_set]
  have HP_0 := Lib.hid (HP.out.below f0)
  have HP_lt := Lib.hid (fun hn => HP.out.lt hn)
  have HQ_0 := Lib.hid (HQ.out.below f0)
  have HQ_lt := Lib.hid (fun hn => HQ.out.lt hn)
  have Ha_0 : Hid (Blk v0 w.heap.size 34 #[.int .i64 i0, .int .i64 t0, .slice A n c, .slice B m d, .int .i64 l0, .int .i64 l1, .int .i64 l2]) := by rw [hv0]; exact (Blk.new_at _ _ _ _ (by simp)).alloc _
  have Hb_0 : Hid (Blk v0 (w.heap.size + 1) 46 #[.int .i64 ex, .int .i64 et, .int .i64 ec, .int .i64 es, .int .i64 ek, .int .i64 ea, .int .i64 eb, .int .i64 eg, .int .i64 eh]) := by rw [hv0]; exact Blk.new_at _ _ _ _ (by simp)
  clear hv0
  generalize hg1 : w.heap.size + 1 = g1 at *
  have lg1 : w.heap.size < g1 := by omega
  have lgz : g1 < v0.heap.size := by omega
  have nq1x0 : ¬ g1 = w.heap.size := by omega
  have nq0x1 : ¬ w.heap.size = g1 := by omega
  clear hg1
  have lt_a := Ha_0.out.lt
  have r_a0 : v0.cell? ⟨w.heap.size, 0, none⟩ = some (.int .i64 i0) := Ha_0.out.cell 0
  have r_a1 : v0.cell? ⟨w.heap.size, 1, none⟩ = some (.int .i64 t0) := Ha_0.out.cell 1
  have r_a2 : v0.cell? ⟨w.heap.size, 2, none⟩ = some (.slice A n c) := Ha_0.out.cell 2
  have r_a3 : v0.cell? ⟨w.heap.size, 3, none⟩ = some (.slice B m d) := Ha_0.out.cell 3
  have r_a4 : v0.cell? ⟨w.heap.size, 4, none⟩ = some (.int .i64 l0) := Ha_0.out.cell 4
  have r_a5 : v0.cell? ⟨w.heap.size, 5, none⟩ = some (.int .i64 l1) := Ha_0.out.cell 5
  have r_a6 : v0.cell? ⟨w.heap.size, 6, none⟩ = some (.int .i64 l2) := Ha_0.out.cell 6
  have lt_b := Hb_0.out.lt
  have r_b0 : v0.cell? ⟨g1, 0, none⟩ = some (.int .i64 ex) := Hb_0.out.cell 0
  have r_b1 : v0.cell? ⟨g1, 1, none⟩ = some (.int .i64 et) := Hb_0.out.cell 1
  have r_b2 : v0.cell? ⟨g1, 2, none⟩ = some (.int .i64 ec) := Hb_0.out.cell 2
  have r_b3 : v0.cell? ⟨g1, 3, none⟩ = some (.int .i64 es) := Hb_0.out.cell 3
  have r_b4 : v0.cell? ⟨g1, 4, none⟩ = some (.int .i64 ek) := Hb_0.out.cell 4
  have r_b5 : v0.cell? ⟨g1, 5, none⟩ = some (.int .i64 ea) := Hb_0.out.cell 5
  have r_b6 : v0.cell? ⟨g1, 6, none⟩ = some (.int .i64 eb) := Hb_0.out.cell 6
  have r_b7 : v0.cell? ⟨g1, 7, none⟩ = some (.int .i64 eg) := Hb_0.out.cell 7
  have r_b8 : v0.cell? ⟨g1, 8, none⟩ = some (.int .i64 eh) := Hb_0.out.cell 8
  have cc := NextIn_any A n c B m d i0 t0 l0 l1 l2 pl ql ex et ec es ek ea eb eg eh v0 HP_0.out HQ_0.out hL.out hR.out hn hm
  cases r0 : (nextInB i0 t0 l0 l1 l2 pl ql ex et ec es ek ea eb eg eh) with
  | false =>
    rw [r0] at cc
    have Hr0 := Lib.hid r0
    clear r0
    refine (cc).mono ?_
    rintro e v1 ⟨rfl, b1⟩
    have f1 := bthen f0 b1
    have z1 := b1.size
    have HP_1 := Lib.hid (HP_0.out.below b1)
    have HQ_1 := Lib.hid (HQ_0.out.below b1)
    have Ha_1 := Lib.hid (Ha_0.out.below b1)
    have Hb_1 := Lib.hid (Hb_0.out.below b1)
    clear lt_a r_a0 r_a1 r_a2 r_a3 r_a4 r_a5 r_a6 lt_b r_b0 r_b1 r_b2 r_b3 r_b4 r_b5 r_b6 r_b7 r_b8
    clear HP_0 HQ_0 Ha_0 Hb_0
    have lt_a := Ha_1.out.lt
    have r_a0 : v1.cell? ⟨w.heap.size, 0, none⟩ = some (.int .i64 i0) := Ha_1.out.cell 0
    have r_a1 : v1.cell? ⟨w.heap.size, 1, none⟩ = some (.int .i64 t0) := Ha_1.out.cell 1
    have r_a2 : v1.cell? ⟨w.heap.size, 2, none⟩ = some (.slice A n c) := Ha_1.out.cell 2
    have r_a3 : v1.cell? ⟨w.heap.size, 3, none⟩ = some (.slice B m d) := Ha_1.out.cell 3
    have r_a4 : v1.cell? ⟨w.heap.size, 4, none⟩ = some (.int .i64 l0) := Ha_1.out.cell 4
    have r_a5 : v1.cell? ⟨w.heap.size, 5, none⟩ = some (.int .i64 l1) := Ha_1.out.cell 5
    have r_a6 : v1.cell? ⟨w.heap.size, 6, none⟩ = some (.int .i64 l2) := Ha_1.out.cell 6
    have lt_b := Hb_1.out.lt
    have r_b0 : v1.cell? ⟨g1, 0, none⟩ = some (.int .i64 ex) := Hb_1.out.cell 0
    have r_b1 : v1.cell? ⟨g1, 1, none⟩ = some (.int .i64 et) := Hb_1.out.cell 1
    have r_b2 : v1.cell? ⟨g1, 2, none⟩ = some (.int .i64 ec) := Hb_1.out.cell 2
    have r_b3 : v1.cell? ⟨g1, 3, none⟩ = some (.int .i64 es) := Hb_1.out.cell 3
    have r_b4 : v1.cell? ⟨g1, 4, none⟩ = some (.int .i64 ek) := Hb_1.out.cell 4
    have r_b5 : v1.cell? ⟨g1, 5, none⟩ = some (.int .i64 ea) := Hb_1.out.cell 5
    have r_b6 : v1.cell? ⟨g1, 6, none⟩ = some (.int .i64 eb) := Hb_1.out.cell 6
    have r_b7 : v1.cell? ⟨g1, 7, none⟩ = some (.int .i64 eg) := Hb_1.out.cell 7
    have r_b8 : v1.cell? ⟨g1, 8, none⟩ = some (.int .i64 eh) := Hb_1.out.cell 8
    have hv : firesInB i0 t0 l0 l1 l2 pl ql ex et ec es ek ea eb eg eh = false := by unfold firesInB; rw [Hr0.out]; simp
    have HV := Lib.hid hv
    clear hv
    go_wp21
    go_ret
    exact ⟨ret_bool HV.out.symm, f1⟩
  | true =>
    rw [r0] at cc
    have Hr0 := Lib.hid r0
    clear r0
    refine (cc).mono ?_
    rintro e v1 ⟨rfl, b1⟩
    have f1 := bthen f0 b1
    have z1 := b1.size
    have HP_1 := Lib.hid (HP_0.out.below b1)
    have HQ_1 := Lib.hid (HQ_0.out.below b1)
    have Ha_1 := Lib.hid (Ha_0.out.below b1)
    have Hb_1 := Lib.hid (Hb_0.out.below b1)
    clear lt_a r_a0 r_a1 r_a2 r_a3 r_a4 r_a5 r_a6 lt_b r_b0 r_b1 r_b2 r_b3 r_b4 r_b5 r_b6 r_b7 r_b8
    clear HP_0 HQ_0 Ha_0 Hb_0
    have lt_a := Ha_1.out.lt
    have r_a0 : v1.cell? ⟨w.heap.size, 0, none⟩ = some (.int .i64 i0) := Ha_1.out.cell 0
    have r_a1 : v1.cell? ⟨w.heap.size, 1, none⟩ = some (.int .i64 t0) := Ha_1.out.cell 1
    have r_a2 : v1.cell? ⟨w.heap.size, 2, none⟩ = some (.slice A n c) := Ha_1.out.cell 2
    have r_a3 : v1.cell? ⟨w.heap.size, 3, none⟩ = some (.slice B m d) := Ha_1.out.cell 3
    have r_a4 : v1.cell? ⟨w.heap.size, 4, none⟩ = some (.int .i64 l0) := Ha_1.out.cell 4
    have r_a5 : v1.cell? ⟨w.heap.size, 5, none⟩ = some (.int .i64 l1) := Ha_1.out.cell 5
    have r_a6 : v1.cell? ⟨w.heap.size, 6, none⟩ = some (.int .i64 l2) := Ha_1.out.cell 6
    have lt_b := Hb_1.out.lt
    have r_b0 : v1.cell? ⟨g1, 0, none⟩ = some (.int .i64 ex) := Hb_1.out.cell 0
    have r_b1 : v1.cell? ⟨g1, 1, none⟩ = some (.int .i64 et) := Hb_1.out.cell 1
    have r_b2 : v1.cell? ⟨g1, 2, none⟩ = some (.int .i64 ec) := Hb_1.out.cell 2
    have r_b3 : v1.cell? ⟨g1, 3, none⟩ = some (.int .i64 es) := Hb_1.out.cell 3
    have r_b4 : v1.cell? ⟨g1, 4, none⟩ = some (.int .i64 ek) := Hb_1.out.cell 4
    have r_b5 : v1.cell? ⟨g1, 5, none⟩ = some (.int .i64 ea) := Hb_1.out.cell 5
    have r_b6 : v1.cell? ⟨g1, 6, none⟩ = some (.int .i64 eb) := Hb_1.out.cell 6
    have r_b7 : v1.cell? ⟨g1, 7, none⟩ = some (.int .i64 eg) := Hb_1.out.cell 7
    have r_b8 : v1.cell? ⟨g1, 8, none⟩ = some (.int .i64 eh) := Hb_1.out.cell 8
    clear cc
    have c9 := fires_any A n c B m d i0 t0 l0 l1 l2 ql ex et ec es ek ea eb eg eh v1 HQ_1.out hR.out hm
    have hv : firesInB i0 t0 l0 l1 l2 pl ql ex et ec es ek ea eb eg eh = firesB l0 l1 l2 ql et ec ek ea eb := by unfold firesInB; rw [Hr0.out]; rfl
    have HV := Lib.hid hv
    clear hv
    generalize firesB l0 l1 l2 ql et ec ek ea eb = q at c9 HV
    go_wp2_with fail
    refine (c9).mono ?_
    rintro e v2 ⟨rfl, b2⟩
    have f2 := bthen f1 b2
    have z2 := b2.size
    have HP_2 := Lib.hid (HP_1.out.below b2)
    have HQ_2 := Lib.hid (HQ_1.out.below b2)
    have Ha_2 := Lib.hid (Ha_1.out.below b2)
    have Hb_2 := Lib.hid (Hb_1.out.below b2)
    clear lt_a r_a0 r_a1 r_a2 r_a3 r_a4 r_a5 r_a6 lt_b r_b0 r_b1 r_b2 r_b3 r_b4 r_b5 r_b6 r_b7 r_b8
    clear HP_1 HQ_1 Ha_1 Hb_1
    have lt_a := Ha_2.out.lt
    have r_a0 : v2.cell? ⟨w.heap.size, 0, none⟩ = some (.int .i64 i0) := Ha_2.out.cell 0
    have r_a1 : v2.cell? ⟨w.heap.size, 1, none⟩ = some (.int .i64 t0) := Ha_2.out.cell 1
    have r_a2 : v2.cell? ⟨w.heap.size, 2, none⟩ = some (.slice A n c) := Ha_2.out.cell 2
    have r_a3 : v2.cell? ⟨w.heap.size, 3, none⟩ = some (.slice B m d) := Ha_2.out.cell 3
    have r_a4 : v2.cell? ⟨w.heap.size, 4, none⟩ = some (.int .i64 l0) := Ha_2.out.cell 4
    have r_a5 : v2.cell? ⟨w.heap.size, 5, none⟩ = some (.int .i64 l1) := Ha_2.out.cell 5
    have r_a6 : v2.cell? ⟨w.heap.size, 6, none⟩ = some (.int .i64 l2) := Ha_2.out.cell 6
    have lt_b := Hb_2.out.lt
    have r_b0 : v2.cell? ⟨g1, 0, none⟩ = some (.int .i64 ex) := Hb_2.out.cell 0
    have r_b1 : v2.cell? ⟨g1, 1, none⟩ = some (.int .i64 et) := Hb_2.out.cell 1
    have r_b2 : v2.cell? ⟨g1, 2, none⟩ = some (.int .i64 ec) := Hb_2.out.cell 2
    have r_b3 : v2.cell? ⟨g1, 3, none⟩ = some (.int .i64 es) := Hb_2.out.cell 3
    have r_b4 : v2.cell? ⟨g1, 4, none⟩ = some (.int .i64 ek) := Hb_2.out.cell 4
    have r_b5 : v2.cell? ⟨g1, 5, none⟩ = some (.int .i64 ea) := Hb_2.out.cell 5
    have r_b6 : v2.cell? ⟨g1, 6, none⟩ = some (.int .i64 eb) := Hb_2.out.cell 6
    have r_b7 : v2.cell? ⟨g1, 7, none⟩ = some (.int .i64 eg) := Hb_2.out.cell 7
    have r_b8 : v2.cell? ⟨g1, 8, none⟩ = some (.int .i64 eh) := Hb_2.out.cell 8
    go_wp21
    go_ret
    exact ⟨ret_bool HV.out.symm, f2⟩
set_option maxRecDepth 100000 in
set_option maxHeartbeats 2000000 in
theorem specFiresIn_any (A : Option Addr) (n c : Nat) (B : Option Addr) (m d : Nat) (i0 t0 l0 l1 l2 : Int) (pl : List Pr) (ql : List Jb) (ex et ec es ek ea eb eg eh : Int) (w : World) (hP : Sl w 2 A n (PR pl)) (hQ : Sl w 5 B m (JB ql)) (hl : pl.length = n) (hr : ql.length = m) (hn : n ≤ maxLen) (hm : m ≤ maxLen) :
    Calls Try.prog 20 #[.agg #[.int .i64 i0, .int .i64 t0, .slice A n c, .slice B m d, .int .i64 l0, .int .i64 l1, .int .i64 l2], .agg #[.int .i64 ex, .int .i64 et, .int .i64 ec, .int .i64 es, .int .i64 ek, .int .i64 ea, .int .i64 eb, .int .i64 eg, .int .i64 eh]] w fun e' w' => e' = .returned (.bool (firesInB i0 t0 l0 l1 l2 pl ql ex et ec es ek ea eb eg eh)) ∧ Below w.heap.size w w' := by
  have hL := Lib.hid hl
  have hR := Lib.hid hr
  have HP := Lib.hid hP
  have HQ := Lib.hid hQ
  clear hP hQ hl hr
  go_enter Try.func20, Try.ntmps20
  go_wp2_with fail
  refine calls_named ?_
  rintro v0 hv0
  have f0 : Below w.heap.size w v0 := by rw [hv0]; (repeat' (first | (with_reducible exact Below.refl _ _) | (with_reducible assumption) | (with_reducible refine Below.alloc ?_ ?_ _) | (with_reducible refine Below.drew ?_) | (with_reducible refine Below.setCell ?_ ?_ _) | (with_reducible refine bstep (by assumption) ?_ ?_) | (with_reducible exact Nat.le_refl _) | omega | (simp [*]; done) | (simp [*]; omega)))
  have z0 : w.heap.size + 2 ≤ v0.heap.size := by rw [hv0]; simp [size_set]
  have HP_0 := Lib.hid (HP.out.below f0)
  have HP_lt := Lib.hid (fun hn => HP.out.lt hn)
  have HQ_0 := Lib.hid (HQ.out.below f0)
  have HQ_lt := Lib.hid (fun hn => HQ.out.lt hn)
  have Ha_0 : Hid (Blk v0 w.heap.size 34 #[.int .i64 i0, .int .i64 t0, .slice A n c, .slice B m d, .int .i64 l0, .int .i64 l1, .int .i64 l2]) := by rw [hv0]; exact (Blk.new_at _ _ _ _ (by simp)).alloc _
  have Hb_0 : Hid (Blk v0 (w.heap.size + 1) 46 #[.int .i64 ex, .int .i64 et, .int .i64 ec, .int .i64 es, .int .i64 ek, .int .i64 ea, .int .i64 eb, .int .i64 eg, .int .i64 eh]) := by rw [hv0]; exact Blk.new_at _ _ _ _ (by simp)
  clear hv0
  generalize hg1 : w.heap.size + 1 = g1 at *
  have lg1 : w.heap.size < g1 := by omega
  have lgz : g1 < v0.heap.size := by omega
  have nq1x0 : ¬ g1 = w.heap.size := by omega
  have nq0x1 : ¬ w.heap.size = g1 := by omega
  clear hg1
  have lt_a := Ha_0.out.lt
  have r_a0 : v0.cell? ⟨w.heap.size, 0, none⟩ = some (.int .i64 i0) := Ha_0.out.cell 0
  have r_a1 : v0.cell? ⟨w.heap.size, 1, none⟩ = some (.int .i64 t0) := Ha_0.out.cell 1
  have r_a2 : v0.cell? ⟨w.heap.size, 2, none⟩ = some (.slice A n c) := Ha_0.out.cell 2
  have r_a3 : v0.cell? ⟨w.heap.size, 3, none⟩ = some (.slice B m d) := Ha_0.out.cell 3
  have r_a4 : v0.cell? ⟨w.heap.size, 4, none⟩ = some (.int .i64 l0) := Ha_0.out.cell 4
  have r_a5 : v0.cell? ⟨w.heap.size, 5, none⟩ = some (.int .i64 l1) := Ha_0.out.cell 5
  have r_a6 : v0.cell? ⟨w.heap.size, 6, none⟩ = some (.int .i64 l2) := Ha_0.out.cell 6
  have lt_b := Hb_0.out.lt
  have r_b0 : v0.cell? ⟨g1, 0, none⟩ = some (.int .i64 ex) := Hb_0.out.cell 0
  have r_b1 : v0.cell? ⟨g1, 1, none⟩ = some (.int .i64 et) := Hb_0.out.cell 1
  have r_b2 : v0.cell? ⟨g1, 2, none⟩ = some (.int .i64 ec) := Hb_0.out.cell 2
  have r_b3 : v0.cell? ⟨g1, 3, none⟩ = some (.int .i64 es) := Hb_0.out.cell 3
  have r_b4 : v0.cell? ⟨g1, 4, none⟩ = some (.int .i64 ek) := Hb_0.out.cell 4
  have r_b5 : v0.cell? ⟨g1, 5, none⟩ = some (.int .i64 ea) := Hb_0.out.cell 5
  have r_b6 : v0.cell? ⟨g1, 6, none⟩ = some (.int .i64 eb) := Hb_0.out.cell 6
  have r_b7 : v0.cell? ⟨g1, 7, none⟩ = some (.int .i64 eg) := Hb_0.out.cell 7
  have r_b8 : v0.cell? ⟨g1, 8, none⟩ = some (.int .i64 eh) := Hb_0.out.cell 8
  have cc := specNextIn_any A n c B m d i0 t0 l0 l1 l2 pl ql ex et ec es ek ea eb eg eh v0 HP_0.out HQ_0.out hL.out hR.out hn hm
  cases r0 : (nextInB i0 t0 l0 l1 l2 pl ql ex et ec es ek ea eb eg eh) with
  | false =>
    rw [r0] at cc
    have Hr0 := Lib.hid r0
    clear r0
    refine (cc).mono ?_
    rintro e v1 ⟨rfl, b1⟩
    have f1 := bthen f0 b1
    have z1 := b1.size
    have HP_1 := Lib.hid (HP_0.out.below b1)
    have HQ_1 := Lib.hid (HQ_0.out.below b1)
    have Ha_1 := Lib.hid (Ha_0.out.below b1)
    have Hb_1 := Lib.hid (Hb_0.out.below b1)
    clear lt_a r_a0 r_a1 r_a2 r_a3 r_a4 r_a5 r_a6 lt_b r_b0 r_b1 r_b2 r_b3 r_b4 r_b5 r_b6 r_b7 r_b8
    clear HP_0 HQ_0 Ha_0 Hb_0
    have lt_a := Ha_1.out.lt
    have r_a0 : v1.cell? ⟨w.heap.size, 0, none⟩ = some (.int .i64 i0) := Ha_1.out.cell 0
    have r_a1 : v1.cell? ⟨w.heap.size, 1, none⟩ = some (.int .i64 t0) := Ha_1.out.cell 1
    have r_a2 : v1.cell? ⟨w.heap.size, 2, none⟩ = some (.slice A n c) := Ha_1.out.cell 2
    have r_a3 : v1.cell? ⟨w.heap.size, 3, none⟩ = some (.slice B m d) := Ha_1.out.cell 3
    have r_a4 : v1.cell? ⟨w.heap.size, 4, none⟩ = some (.int .i64 l0) := Ha_1.out.cell 4
    have r_a5 : v1.cell? ⟨w.heap.size, 5, none⟩ = some (.int .i64 l1) := Ha_1.out.cell 5
    have r_a6 : v1.cell? ⟨w.heap.size, 6, none⟩ = some (.int .i64 l2) := Ha_1.out.cell 6
    have lt_b := Hb_1.out.lt
    have r_b0 : v1.cell? ⟨g1, 0, none⟩ = some (.int .i64 ex) := Hb_1.out.cell 0
    have r_b1 : v1.cell? ⟨g1, 1, none⟩ = some (.int .i64 et) := Hb_1.out.cell 1
    have r_b2 : v1.cell? ⟨g1, 2, none⟩ = some (.int .i64 ec) := Hb_1.out.cell 2
    have r_b3 : v1.cell? ⟨g1, 3, none⟩ = some (.int .i64 es) := Hb_1.out.cell 3
    have r_b4 : v1.cell? ⟨g1, 4, none⟩ = some (.int .i64 ek) := Hb_1.out.cell 4
    have r_b5 : v1.cell? ⟨g1, 5, none⟩ = some (.int .i64 ea) := Hb_1.out.cell 5
    have r_b6 : v1.cell? ⟨g1, 6, none⟩ = some (.int .i64 eb) := Hb_1.out.cell 6
    have r_b7 : v1.cell? ⟨g1, 7, none⟩ = some (.int .i64 eg) := Hb_1.out.cell 7
    have r_b8 : v1.cell? ⟨g1, 8, none⟩ = some (.int .i64 eh) := Hb_1.out.cell 8
    have hv : firesInB i0 t0 l0 l1 l2 pl ql ex et ec es ek ea eb eg eh = false := by unfold firesInB; rw [Hr0.out]; simp
    have HV := Lib.hid hv
    clear hv
    go_wp21
    go_ret
    exact ⟨ret_bool HV.out.symm, f1⟩
  | true =>
    rw [r0] at cc
    have Hr0 := Lib.hid r0
    clear r0
    refine (cc).mono ?_
    rintro e v1 ⟨rfl, b1⟩
    have f1 := bthen f0 b1
    have z1 := b1.size
    have HP_1 := Lib.hid (HP_0.out.below b1)
    have HQ_1 := Lib.hid (HQ_0.out.below b1)
    have Ha_1 := Lib.hid (Ha_0.out.below b1)
    have Hb_1 := Lib.hid (Hb_0.out.below b1)
    clear lt_a r_a0 r_a1 r_a2 r_a3 r_a4 r_a5 r_a6 lt_b r_b0 r_b1 r_b2 r_b3 r_b4 r_b5 r_b6 r_b7 r_b8
    clear HP_0 HQ_0 Ha_0 Hb_0
    have lt_a := Ha_1.out.lt
    have r_a0 : v1.cell? ⟨w.heap.size, 0, none⟩ = some (.int .i64 i0) := Ha_1.out.cell 0
    have r_a1 : v1.cell? ⟨w.heap.size, 1, none⟩ = some (.int .i64 t0) := Ha_1.out.cell 1
    have r_a2 : v1.cell? ⟨w.heap.size, 2, none⟩ = some (.slice A n c) := Ha_1.out.cell 2
    have r_a3 : v1.cell? ⟨w.heap.size, 3, none⟩ = some (.slice B m d) := Ha_1.out.cell 3
    have r_a4 : v1.cell? ⟨w.heap.size, 4, none⟩ = some (.int .i64 l0) := Ha_1.out.cell 4
    have r_a5 : v1.cell? ⟨w.heap.size, 5, none⟩ = some (.int .i64 l1) := Ha_1.out.cell 5
    have r_a6 : v1.cell? ⟨w.heap.size, 6, none⟩ = some (.int .i64 l2) := Ha_1.out.cell 6
    have lt_b := Hb_1.out.lt
    have r_b0 : v1.cell? ⟨g1, 0, none⟩ = some (.int .i64 ex) := Hb_1.out.cell 0
    have r_b1 : v1.cell? ⟨g1, 1, none⟩ = some (.int .i64 et) := Hb_1.out.cell 1
    have r_b2 : v1.cell? ⟨g1, 2, none⟩ = some (.int .i64 ec) := Hb_1.out.cell 2
    have r_b3 : v1.cell? ⟨g1, 3, none⟩ = some (.int .i64 es) := Hb_1.out.cell 3
    have r_b4 : v1.cell? ⟨g1, 4, none⟩ = some (.int .i64 ek) := Hb_1.out.cell 4
    have r_b5 : v1.cell? ⟨g1, 5, none⟩ = some (.int .i64 ea) := Hb_1.out.cell 5
    have r_b6 : v1.cell? ⟨g1, 6, none⟩ = some (.int .i64 eb) := Hb_1.out.cell 6
    have r_b7 : v1.cell? ⟨g1, 7, none⟩ = some (.int .i64 eg) := Hb_1.out.cell 7
    have r_b8 : v1.cell? ⟨g1, 8, none⟩ = some (.int .i64 eh) := Hb_1.out.cell 8
    clear cc
    have hx : firesInB i0 t0 l0 l1 l2 pl ql ex et ec es ek ea eb eg eh = firesB l0 l1 l2 ql et ec ek ea eb := by unfold firesInB; rw [Hr0.out]; rfl
    have HX := Lib.hid hx
    clear hx
    have HJR := Lib.hid (show jobAtR ql ea = jobAtV ql ea by unfold jobAtR; rw [if_pos (nextInB_jobs Hr0.out)])
    cases q1 : (ek == 4) with
    | false =>
      have n1 : (ek != 4) = true := by rw [bne, q1]; rfl
      have HV := Lib.hid (show firesInB i0 t0 l0 l1 l2 pl ql ex et ec es ek ea eb eg eh = false from HX.out.trans (show _ = false by unfold firesB; rw [q1]; rfl))
      go_wp21
      go_ret
      exact ⟨ret_bool HV.out.symm, f1⟩
    | true =>
      have n1 : (ek != 4) = false := by rw [bne, q1]; rfl
      have HK := Lib.hid q1
      have cc := specJobAt_any B m d ql ea v1 HQ_1.out hR.out hm
      rw [HJR.out] at cc
      obtain ⟨J, hj⟩ : ∃ J, J = jobAtV ql ea := ⟨_, rfl⟩
      rw [← hj] at cc
      obtain ⟨⟨ji, jd, jk, jv, jf⟩, ok⟩ := J
      have HE := Lib.hid (HX.out.trans (firesB_at (l0 := l0) (l1 := l1) (l2 := l2) (et := et) (ec := ec) (eb := eb) HK.out hj.symm))
      clear hj
      dsimp only at cc
      cases ok with
      | false =>
        go_wp2_with fail
        refine (cc).mono ?_
        rintro e v2 ⟨rfl, b2⟩
        have f2 := bthen f1 b2
        have z2 := b2.size
        have HP_2 := Lib.hid (HP_1.out.below b2)
        have HQ_2 := Lib.hid (HQ_1.out.below b2)
        have Ha_2 := Lib.hid (Ha_1.out.below b2)
        have Hb_2 := Lib.hid (Hb_1.out.below b2)
        clear lt_a r_a0 r_a1 r_a2 r_a3 r_a4 r_a5 r_a6 lt_b r_b0 r_b1 r_b2 r_b3 r_b4 r_b5 r_b6 r_b7 r_b8
        clear HP_1 HQ_1 Ha_1 Hb_1
        have lt_a := Ha_2.out.lt
        have r_a0 : v2.cell? ⟨w.heap.size, 0, none⟩ = some (.int .i64 i0) := Ha_2.out.cell 0
        have r_a1 : v2.cell? ⟨w.heap.size, 1, none⟩ = some (.int .i64 t0) := Ha_2.out.cell 1
        have r_a2 : v2.cell? ⟨w.heap.size, 2, none⟩ = some (.slice A n c) := Ha_2.out.cell 2
        have r_a3 : v2.cell? ⟨w.heap.size, 3, none⟩ = some (.slice B m d) := Ha_2.out.cell 3
        have r_a4 : v2.cell? ⟨w.heap.size, 4, none⟩ = some (.int .i64 l0) := Ha_2.out.cell 4
        have r_a5 : v2.cell? ⟨w.heap.size, 5, none⟩ = some (.int .i64 l1) := Ha_2.out.cell 5
        have r_a6 : v2.cell? ⟨w.heap.size, 6, none⟩ = some (.int .i64 l2) := Ha_2.out.cell 6
        have lt_b := Hb_2.out.lt
        have r_b0 : v2.cell? ⟨g1, 0, none⟩ = some (.int .i64 ex) := Hb_2.out.cell 0
        have r_b1 : v2.cell? ⟨g1, 1, none⟩ = some (.int .i64 et) := Hb_2.out.cell 1
        have r_b2 : v2.cell? ⟨g1, 2, none⟩ = some (.int .i64 ec) := Hb_2.out.cell 2
        have r_b3 : v2.cell? ⟨g1, 3, none⟩ = some (.int .i64 es) := Hb_2.out.cell 3
        have r_b4 : v2.cell? ⟨g1, 4, none⟩ = some (.int .i64 ek) := Hb_2.out.cell 4
        have r_b5 : v2.cell? ⟨g1, 5, none⟩ = some (.int .i64 ea) := Hb_2.out.cell 5
        have r_b6 : v2.cell? ⟨g1, 6, none⟩ = some (.int .i64 eb) := Hb_2.out.cell 6
        have r_b7 : v2.cell? ⟨g1, 7, none⟩ = some (.int .i64 eg) := Hb_2.out.cell 7
        have r_b8 : v2.cell? ⟨g1, 8, none⟩ = some (.int .i64 eh) := Hb_2.out.cell 8
        have HV := Lib.hid (show firesInB i0 t0 l0 l1 l2 pl ql ex et ec es ek ea eb eg eh = false from HE.out.trans (by simp))
        go_wp21
        go_ret
        exact ⟨ret_bool HV.out.symm, f2.alloc f2.size _⟩
      | true =>
        go_wp2_with fail
        refine (cc).mono ?_
        rintro e v2 ⟨rfl, b2⟩
        have f2 := bthen f1 b2
        have z2 := b2.size
        have HP_2 := Lib.hid (HP_1.out.below b2)
        have HQ_2 := Lib.hid (HQ_1.out.below b2)
        have Ha_2 := Lib.hid (Ha_1.out.below b2)
        have Hb_2 := Lib.hid (Hb_1.out.below b2)
        clear lt_a r_a0 r_a1 r_a2 r_a3 r_a4 r_a5 r_a6 lt_b r_b0 r_b1 r_b2 r_b3 r_b4 r_b5 r_b6 r_b7 r_b8
        clear HP_1 HQ_1 Ha_1 Hb_1
        clear cc
        have lt_a := Ha_2.out.lt
        have r_a0 : v2.cell? ⟨w.heap.size, 0, none⟩ = some (.int .i64 i0) := Ha_2.out.cell 0
        have r_a1 : v2.cell? ⟨w.heap.size, 1, none⟩ = some (.int .i64 t0) := Ha_2.out.cell 1
        have r_a2 : v2.cell? ⟨w.heap.size, 2, none⟩ = some (.slice A n c) := Ha_2.out.cell 2
        have r_a3 : v2.cell? ⟨w.heap.size, 3, none⟩ = some (.slice B m d) := Ha_2.out.cell 3
        have r_a4 : v2.cell? ⟨w.heap.size, 4, none⟩ = some (.int .i64 l0) := Ha_2.out.cell 4
        have r_a5 : v2.cell? ⟨w.heap.size, 5, none⟩ = some (.int .i64 l1) := Ha_2.out.cell 5
        have r_a6 : v2.cell? ⟨w.heap.size, 6, none⟩ = some (.int .i64 l2) := Ha_2.out.cell 6
        have lt_b := Hb_2.out.lt
        have r_b0 : v2.cell? ⟨g1, 0, none⟩ = some (.int .i64 ex) := Hb_2.out.cell 0
        have r_b1 : v2.cell? ⟨g1, 1, none⟩ = some (.int .i64 et) := Hb_2.out.cell 1
        have r_b2 : v2.cell? ⟨g1, 2, none⟩ = some (.int .i64 ec) := Hb_2.out.cell 2
        have r_b3 : v2.cell? ⟨g1, 3, none⟩ = some (.int .i64 es) := Hb_2.out.cell 3
        have r_b4 : v2.cell? ⟨g1, 4, none⟩ = some (.int .i64 ek) := Hb_2.out.cell 4
        have r_b5 : v2.cell? ⟨g1, 5, none⟩ = some (.int .i64 ea) := Hb_2.out.cell 5
        have r_b6 : v2.cell? ⟨g1, 6, none⟩ = some (.int .i64 eb) := Hb_2.out.cell 6
        have r_b7 : v2.cell? ⟨g1, 7, none⟩ = some (.int .i64 eg) := Hb_2.out.cell 7
        have r_b8 : v2.cell? ⟨g1, 8, none⟩ = some (.int .i64 eh) := Hb_2.out.cell 8
        cases s1 : (jf == 0) with
        | false =>
          have HE2 := Lib.hid (HE.out.trans (show _ = false by rw [s1]; simp))
          have HV := Lib.hid (show firesInB i0 t0 l0 l1 l2 pl ql ex et ec es ek ea eb eg eh = false from HE2.out)
          go_wp21
          go_ret
          exact ⟨ret_bool HV.out.symm, f2.alloc f2.size _⟩
        | true =>
          have S1 := Lib.hid s1
          by_cases s2 : jd ≤ et
          rotate_left
          · have s3 : et < jd := by omega
            have HE2 := Lib.hid (HE.out.trans (show _ = false by rw [decide_eq_false s2]; simp))
            have HV := Lib.hid (show firesInB i0 t0 l0 l1 l2 pl ql ex et ec es ek ea eb eg eh = false from HE2.out)
            go_wp21
            go_ret
            exact ⟨ret_bool HV.out.symm, f2.alloc f2.size _⟩
          have HE2 := Lib.hid (HE.out.trans (show _ = holdsB l0 l1 l2 ec eb et by rw [S1.out, decide_eq_true s2]; rfl))
          go_wp2_with fail
          refine calls_named ?_
          rintro v3 hv3
          have f3 : Below w.heap.size w v3 := by rw [hv3]; (repeat' (first | (with_reducible exact Below.refl _ _) | (with_reducible assumption) | (with_reducible refine Below.alloc ?_ ?_ _) | (with_reducible refine Below.drew ?_) | (with_reducible refine Below.setCell ?_ ?_ _) | (with_reducible refine bstep (by assumption) ?_ ?_) | (with_reducible exact Nat.le_refl _) | omega | (simp [*]; done) | (simp [*]; omega)))
          have z3 : v2.heap.size + 1 ≤ v3.heap.size := by rw [hv3]; simp [size_set]
          have HP_3 : Hid (Sl v3 2 A n (PR pl)) := by rw [hv3]; exact (HP_2.out).alloc _
          have HQ_3 : Hid (Sl v3 5 B m (JB ql)) := by rw [hv3]; exact (HQ_2.out).alloc _
          have Ha_3 : Hid (Blk v3 w.heap.size 34 #[.int .i64 i0, .int .i64 t0, .slice A n c, .slice B m d, .int .i64 l0, .int .i64 l1, .int .i64 l2]) := by rw [hv3]; exact (Ha_2.out).alloc _
          have Hb_3 : Hid (Blk v3 g1 46 #[.int .i64 ex, .int .i64 et, .int .i64 ec, .int .i64 es, .int .i64 ek, .int .i64 ea, .int .i64 eb, .int .i64 eg, .int .i64 eh]) := by rw [hv3]; exact (Hb_2.out).alloc _
          have Hj_3 : Hid (Blk v3 v2.heap.size 70 #[.int .i64 ji, .int .i64 jd, .int .i64 jk, .int .i64 jv, .int .i64 jf]) := by rw [hv3]; exact (Blk.new_at _ _ _ _ (by simp [size_set]))
          clear lt_a r_a0 r_a1 r_a2 r_a3 r_a4 r_a5 r_a6 lt_b r_b0 r_b1 r_b2 r_b3 r_b4 r_b5 r_b6 r_b7 r_b8
          clear hv3 HP_2 HQ_2 Ha_2 Hb_2
          have ch := specHoldsAt_any l0 l1 l2 ec eb et v3
          generalize holdsB l0 l1 l2 ec eb et = q at ch HE2
          have lt_a := Ha_3.out.lt
          have r_a0 : v3.cell? ⟨w.heap.size, 0, none⟩ = some (.int .i64 i0) := Ha_3.out.cell 0
          have r_a1 : v3.cell? ⟨w.heap.size, 1, none⟩ = some (.int .i64 t0) := Ha_3.out.cell 1
          have r_a2 : v3.cell? ⟨w.heap.size, 2, none⟩ = some (.slice A n c) := Ha_3.out.cell 2
          have r_a3 : v3.cell? ⟨w.heap.size, 3, none⟩ = some (.slice B m d) := Ha_3.out.cell 3
          have r_a4 : v3.cell? ⟨w.heap.size, 4, none⟩ = some (.int .i64 l0) := Ha_3.out.cell 4
          have r_a5 : v3.cell? ⟨w.heap.size, 5, none⟩ = some (.int .i64 l1) := Ha_3.out.cell 5
          have r_a6 : v3.cell? ⟨w.heap.size, 6, none⟩ = some (.int .i64 l2) := Ha_3.out.cell 6
          have lt_b := Hb_3.out.lt
          have r_b0 : v3.cell? ⟨g1, 0, none⟩ = some (.int .i64 ex) := Hb_3.out.cell 0
          have r_b1 : v3.cell? ⟨g1, 1, none⟩ = some (.int .i64 et) := Hb_3.out.cell 1
          have r_b2 : v3.cell? ⟨g1, 2, none⟩ = some (.int .i64 ec) := Hb_3.out.cell 2
          have r_b3 : v3.cell? ⟨g1, 3, none⟩ = some (.int .i64 es) := Hb_3.out.cell 3
          have r_b4 : v3.cell? ⟨g1, 4, none⟩ = some (.int .i64 ek) := Hb_3.out.cell 4
          have r_b5 : v3.cell? ⟨g1, 5, none⟩ = some (.int .i64 ea) := Hb_3.out.cell 5
          have r_b6 : v3.cell? ⟨g1, 6, none⟩ = some (.int .i64 eb) := Hb_3.out.cell 6
          have r_b7 : v3.cell? ⟨g1, 7, none⟩ = some (.int .i64 eg) := Hb_3.out.cell 7
          have r_b8 : v3.cell? ⟨g1, 8, none⟩ = some (.int .i64 eh) := Hb_3.out.cell 8
          have lt_j := Hj_3.out.lt
          have r_j0 : v3.cell? ⟨v2.heap.size, 0, none⟩ = some (.int .i64 ji) := Hj_3.out.cell 0
          have r_j1 : v3.cell? ⟨v2.heap.size, 1, none⟩ = some (.int .i64 jd) := Hj_3.out.cell 1
          have r_j2 : v3.cell? ⟨v2.heap.size, 2, none⟩ = some (.int .i64 jk) := Hj_3.out.cell 2
          have r_j3 : v3.cell? ⟨v2.heap.size, 3, none⟩ = some (.int .i64 jv) := Hj_3.out.cell 3
          have r_j4 : v3.cell? ⟨v2.heap.size, 4, none⟩ = some (.int .i64 jf) := Hj_3.out.cell 4
          refine (ch).mono ?_
          rintro e v4 ⟨rfl, b4⟩
          have f4 := bthen f3 b4
          have z4 := b4.size
          have HP_4 := Lib.hid (HP_3.out.below b4)
          have HQ_4 := Lib.hid (HQ_3.out.below b4)
          have Ha_4 := Lib.hid (Ha_3.out.below b4)
          have Hb_4 := Lib.hid (Hb_3.out.below b4)
          have Hj_4 := Lib.hid (Hj_3.out.below b4)
          clear lt_a r_a0 r_a1 r_a2 r_a3 r_a4 r_a5 r_a6 lt_b r_b0 r_b1 r_b2 r_b3 r_b4 r_b5 r_b6 r_b7 r_b8 lt_j r_j0 r_j1 r_j2 r_j3 r_j4
          clear HP_3 HQ_3 Ha_3 Hb_3 Hj_3
          clear ch
          have lt_a := Ha_4.out.lt
          have r_a0 : v4.cell? ⟨w.heap.size, 0, none⟩ = some (.int .i64 i0) := Ha_4.out.cell 0
          have r_a1 : v4.cell? ⟨w.heap.size, 1, none⟩ = some (.int .i64 t0) := Ha_4.out.cell 1
          have r_a2 : v4.cell? ⟨w.heap.size, 2, none⟩ = some (.slice A n c) := Ha_4.out.cell 2
          have r_a3 : v4.cell? ⟨w.heap.size, 3, none⟩ = some (.slice B m d) := Ha_4.out.cell 3
          have r_a4 : v4.cell? ⟨w.heap.size, 4, none⟩ = some (.int .i64 l0) := Ha_4.out.cell 4
          have r_a5 : v4.cell? ⟨w.heap.size, 5, none⟩ = some (.int .i64 l1) := Ha_4.out.cell 5
          have r_a6 : v4.cell? ⟨w.heap.size, 6, none⟩ = some (.int .i64 l2) := Ha_4.out.cell 6
          have lt_b := Hb_4.out.lt
          have r_b0 : v4.cell? ⟨g1, 0, none⟩ = some (.int .i64 ex) := Hb_4.out.cell 0
          have r_b1 : v4.cell? ⟨g1, 1, none⟩ = some (.int .i64 et) := Hb_4.out.cell 1
          have r_b2 : v4.cell? ⟨g1, 2, none⟩ = some (.int .i64 ec) := Hb_4.out.cell 2
          have r_b3 : v4.cell? ⟨g1, 3, none⟩ = some (.int .i64 es) := Hb_4.out.cell 3
          have r_b4 : v4.cell? ⟨g1, 4, none⟩ = some (.int .i64 ek) := Hb_4.out.cell 4
          have r_b5 : v4.cell? ⟨g1, 5, none⟩ = some (.int .i64 ea) := Hb_4.out.cell 5
          have r_b6 : v4.cell? ⟨g1, 6, none⟩ = some (.int .i64 eb) := Hb_4.out.cell 6
          have r_b7 : v4.cell? ⟨g1, 7, none⟩ = some (.int .i64 eg) := Hb_4.out.cell 7
          have r_b8 : v4.cell? ⟨g1, 8, none⟩ = some (.int .i64 eh) := Hb_4.out.cell 8
          have lt_j := Hj_4.out.lt
          have r_j0 : v4.cell? ⟨v2.heap.size, 0, none⟩ = some (.int .i64 ji) := Hj_4.out.cell 0
          have r_j1 : v4.cell? ⟨v2.heap.size, 1, none⟩ = some (.int .i64 jd) := Hj_4.out.cell 1
          have r_j2 : v4.cell? ⟨v2.heap.size, 2, none⟩ = some (.int .i64 jk) := Hj_4.out.cell 2
          have r_j3 : v4.cell? ⟨v2.heap.size, 3, none⟩ = some (.int .i64 jv) := Hj_4.out.cell 3
          have r_j4 : v4.cell? ⟨v2.heap.size, 4, none⟩ = some (.int .i64 jf) := Hj_4.out.cell 4
          go_wp21
          go_ret
          exact ⟨ret_bool HE2.out.symm, f4⟩
end Go.Proofs.Ytodkcanhlpgpgaa

/- Clients: SameClient, the program's and the reference's. -/
import Derived.Test.YtbcpcddmekoaeaaC2
import Derived.Test.YtbcpcddmekoaeaaWantE
import Derived.Test.YtbcpcddmekoaeaaSGot
namespace Go.Proofs.Ytbcpcddmekoaeaa
set_option linter.unusedSimpArgs false
set_option linter.unusedVariables false
attribute [local go_sem] n_lt2 n_lt3 n_lt4 n_le2 n_le3
open Go.RowKit
def sameClientB (i0 : Int) (wl : List Wt) (gl : List Gt) (t0 : Int) (j0 : Int) (xl : List Wt) (yl : List Gt) (u0 : Int) : Bool := (i0 == j0) && (eqL (WT wl) (WT xl) && (eqL (GT gl) (GT yl) && (t0 == u0)))
set_option maxRecDepth 20000 in
theorem got_neq (x0 x1 x2 x3 y0 y1 y2 y3 : Int) (w : World) :
    (binOp .neq 72 (.agg #[.int .i64 x0, .int .i64 x1, .int .i64 x2, .int .i64 x3]) (.agg #[.int .i64 y0, .int .i64 y1, .int .i64 y2, .int .i64 y3])).run Try.prog w = .ok (.bool (!eqL [x0, x1, x2, x3] [y0, y1, y2, y3])) w := by
  have hS : Try.prog.underlying 72 = some (.struct (Try.prog.fieldsOf 72)) := by kernel_rfl
  have hp : Try.prog.stoodInHeld 72 = false := by kernel_rfl
  rw [run_neq_struct, show (10000 : Nat) = 9999 + 1 from rfl, run_equalIn_agg w 9999 72 _ _ hS hp]
  simp only [Program.fieldsOf, Try.underlying72]
  clear hS hp
  go_simp
  by_cases h : [x0, x1, x2, x3] = [y0, y1, y2, y3]
  · rw [h, eqL_self]
    simp only [List.cons.injEq, and_true] at h
    obtain ⟨rfl, rfl, rfl, rfl⟩ := h
    simp
  · rw [eqL_ne h]
    simp only [List.cons.injEq, and_true, not_and] at h
    repeat' split
    all_goals first | rfl | (exfalso; simp_all; done)
theorem list4 {zs ys : List Int} {k : Nat} {x0 x1 x2 x3 y0 y1 y2 y3 : Int} (hx : zs.getD (k * 4) 0 = x0 ∧ zs.getD (k * 4 + 1) 0 = x1 ∧ zs.getD (k * 4 + 2) 0 = x2 ∧ zs.getD (k * 4 + 3) 0 = x3) (hy : ys.getD (k * 4) 0 = y0 ∧ ys.getD (k * 4 + 1) 0 = y1 ∧ ys.getD (k * 4 + 2) 0 = y2 ∧ ys.getD (k * 4 + 3) 0 = y3) (h : eqL [x0, x1, x2, x3] [y0, y1, y2, y3] = true) : ∀ j, k * 4 ≤ j → j < k * 4 + 4 → zs.getD j 0 = ys.getD j 0 := by
  have he := eqL_true h
  simp only [List.cons.injEq, and_true] at he
  obtain ⟨e0, e1, e2, e3⟩ := he
  obtain ⟨a0, a1, a2, a3⟩ := hx
  obtain ⟨b0, b1, b2, b3⟩ := hy
  intro j h1 h2
  rcases (by omega : j = k * 4 ∨ j = k * 4 + 1 ∨ j = k * 4 + 2 ∨ j = k * 4 + 3) with r | r | r | r <;> subst r
  · rw [a0, b0, e0]
  · rw [a1, b1, e1]
  · rw [a2, b2, e2]
  · rw [a3, b3, e3]
theorem list4_ne {zs ys : List Int} {k : Nat} {x0 x1 x2 x3 y0 y1 y2 y3 : Int} (hx : zs.getD (k * 4) 0 = x0 ∧ zs.getD (k * 4 + 1) 0 = x1 ∧ zs.getD (k * 4 + 2) 0 = x2 ∧ zs.getD (k * 4 + 3) 0 = x3) (hy : ys.getD (k * 4) 0 = y0 ∧ ys.getD (k * 4 + 1) 0 = y1 ∧ ys.getD (k * 4 + 2) 0 = y2 ∧ ys.getD (k * 4 + 3) 0 = y3) (h : eqL [x0, x1, x2, x3] [y0, y1, y2, y3] = false) : zs ≠ ys := by
  rintro rfl
  obtain ⟨a0, a1, a2, a3⟩ := hx
  obtain ⟨b0, b1, b2, b3⟩ := hy
  have : [x0, x1, x2, x3] = [y0, y1, y2, y3] := by rw [← a0, ← a1, ← a2, ← a3, b0, b1, b2, b3]
  rw [this, eqL_self] at h
  exact absurd h (by decide)
theorem sameC_todo {i0 t0 j0 u0 : Int} {wl xl : List Wt} {gl yl : List Gt} (h : WT wl ≠ WT xl) : sameClientB i0 wl gl t0 j0 xl yl u0 = false := by unfold sameClientB; rw [eqL_ne h]; simp
theorem sameC_gots {i0 t0 j0 u0 : Int} {wl xl : List Wt} {gl yl : List Gt} (h : GT gl ≠ GT yl) : sameClientB i0 wl gl t0 j0 xl yl u0 = false := by unfold sameClientB; rw [eqL_ne h]; simp
attribute [local go_sem] Ext.cell Ext.frozen
set_option maxRecDepth 100000 in
set_option maxHeartbeats 2000000 in
theorem sameClient_any (A : Option Addr) (n c : Nat) (B : Option Addr) (m d : Nat) (i0 t0 : Int) (C : Option Addr) (n2 c2 : Nat) (D : Option Addr) (m2 d2 : Nat) (j0 u0 : Int) (wl : List Wt) (gl : List Gt) (xl : List Wt) (yl : List Gt) (w : World) (hP : Sl w 7 A n (WT wl)) (hQ : Sl w 4 B m (GT gl)) (hR : Sl w 7 C n2 (WT xl)) (hS : Sl w 4 D m2 (GT yl)) (hl : wl.length = n) (hr : gl.length = m) (hl2 : xl.length = n2) (hr2 : yl.length = m2) (hn : n ≤ maxLen) (hm : m ≤ maxLen) (hn2 : n2 ≤ maxLen) (hm2 : m2 ≤ maxLen) :
    Calls Try.prog 17 #[.agg #[.int .i64 i0, .slice A n c, .slice B m d, .int .i64 t0], .agg #[.int .i64 j0, .slice C n2 c2, .slice D m2 d2, .int .i64 u0]] w fun e' w' => e' = .returned (.bool (sameClientB i0 wl gl t0 j0 xl yl u0)) ∧ Below w.heap.size w w' := by
  have HL := Lib.hid (And.intro (And.intro hl hr) (And.intro hl2 hr2))
  have HP := Lib.hid hP
  have HQ := Lib.hid hQ
  have HR := Lib.hid hR
  have HS := Lib.hid hS
  clear hP hQ hR hS hl hr hl2 hr2
  cases q1 : (i0 == j0) with
  | false =>
    have HV := Lib.hid (show sameClientB i0 wl gl t0 j0 xl yl u0 = false by unfold sameClientB; rw [q1]; rfl)
    go_enter Try.func17, Try.ntmps17
    go_wp21
    go_ret
    exact ⟨ret_bool HV.out.symm, by (repeat' (first | (with_reducible exact Below.refl _ _) | (with_reducible assumption) | (with_reducible refine Below.alloc ?_ ?_ _) | (with_reducible refine Below.drew ?_) | (with_reducible refine Below.setCell ?_ ?_ _) | (with_reducible refine bstep (by assumption) ?_ ?_) | (with_reducible exact Nat.le_refl _) | omega | (simp [*]; done) | (simp [*]; omega)))⟩
  | true =>
    have Hq1 := Lib.hid q1
    go_enter Try.func17, Try.ntmps17
    go_wp2_with fail
    refine calls_named ?_
    rintro v0 hv0
    have f0 : Below w.heap.size w v0 := by rw [hv0]; (repeat' (first | (with_reducible exact Below.refl _ _) | (with_reducible assumption) | (with_reducible refine Below.alloc ?_ ?_ _) | (with_reducible refine Below.drew ?_) | (with_reducible refine Below.setCell ?_ ?_ _) | (with_reducible refine bstep (by assumption) ?_ ?_) | (with_reducible exact Nat.le_refl _) | omega | (simp [*]; done) | (simp [*]; omega)))
    have z0 : w.heap.size + 2 ≤ v0.heap.size := by rw [hv0]; simp [size_set]
    have HP_0 := Lib.hid (HP.out.below f0)
    have HP_lt := Lib.hid (fun hn => HP.out.lt hn)
    have HQ_0 := Lib.hid (HQ.out.below f0)
    have HQ_lt := Lib.hid (fun hn => HQ.out.lt hn)
    have HR_0 := Lib.hid (HR.out.below f0)
    have HR_lt := Lib.hid (fun hn => HR.out.lt hn)
    have HS_0 := Lib.hid (HS.out.below f0)
    have HS_lt := Lib.hid (fun hn => HS.out.lt hn)
    have Ha_0 : Hid (Blk v0 w.heap.size 31 #[.int .i64 i0, .slice A n c, .slice B m d, .int .i64 t0]) := by rw [hv0]; exact (Blk.new_at _ _ _ _ (by simp)).alloc _
    have Hb_0 : Hid (Blk v0 (w.heap.size + 1) 31 #[.int .i64 j0, .slice C n2 c2, .slice D m2 d2, .int .i64 u0]) := by rw [hv0]; exact Blk.new_at _ _ _ _ (by simp)
    clear hv0
    generalize hg1 : w.heap.size + 1 = g1 at *
    have lg1 : w.heap.size < g1 := by omega
    have lgz : g1 < v0.heap.size := by omega
    have nq1x0 : ¬ g1 = w.heap.size := by omega
    have nq0x1 : ¬ w.heap.size = g1 := by omega
    clear hg1
    have lt_a := Ha_0.out.lt
    have r_a0 : v0.cell? ⟨w.heap.size, 0, none⟩ = some (.int .i64 i0) := Ha_0.out.cell 0
    have r_a1 : v0.cell? ⟨w.heap.size, 1, none⟩ = some (.slice A n c) := Ha_0.out.cell 1
    have r_a2 : v0.cell? ⟨w.heap.size, 2, none⟩ = some (.slice B m d) := Ha_0.out.cell 2
    have r_a3 : v0.cell? ⟨w.heap.size, 3, none⟩ = some (.int .i64 t0) := Ha_0.out.cell 3
    have lt_b := Hb_0.out.lt
    have r_b0 : v0.cell? ⟨g1, 0, none⟩ = some (.int .i64 j0) := Hb_0.out.cell 0
    have r_b1 : v0.cell? ⟨g1, 1, none⟩ = some (.slice C n2 c2) := Hb_0.out.cell 1
    have r_b2 : v0.cell? ⟨g1, 2, none⟩ = some (.slice D m2 d2) := Hb_0.out.cell 2
    have r_b3 : v0.cell? ⟨g1, 3, none⟩ = some (.int .i64 u0) := Hb_0.out.cell 3
    have cc := equalWantS_any A C n n2 c c2 (WT wl) (WT xl) v0 HP_0.out HR_0.out hn hn2
    cases q2 : (eqL (WT wl) (WT xl)) with
    | false =>
      rw [q2] at cc
      have Hq2 := Lib.hid q2
      clear q2
      refine (cc).mono ?_
      rintro e v1 ⟨rfl, b1⟩
      have f1 := bthen f0 b1
      have z1 := b1.size
      have HP_1 := Lib.hid (HP_0.out.below b1)
      have HQ_1 := Lib.hid (HQ_0.out.below b1)
      have HR_1 := Lib.hid (HR_0.out.below b1)
      have HS_1 := Lib.hid (HS_0.out.below b1)
      have Ha_1 := Lib.hid (Ha_0.out.below b1)
      have Hb_1 := Lib.hid (Hb_0.out.below b1)
      clear lt_a r_a0 r_a1 r_a2 r_a3 lt_b r_b0 r_b1 r_b2 r_b3
      clear HP_0 HQ_0 HR_0 HS_0 Ha_0 Hb_0
      have lt_a := Ha_1.out.lt
      have r_a0 : v1.cell? ⟨w.heap.size, 0, none⟩ = some (.int .i64 i0) := Ha_1.out.cell 0
      have r_a1 : v1.cell? ⟨w.heap.size, 1, none⟩ = some (.slice A n c) := Ha_1.out.cell 1
      have r_a2 : v1.cell? ⟨w.heap.size, 2, none⟩ = some (.slice B m d) := Ha_1.out.cell 2
      have r_a3 : v1.cell? ⟨w.heap.size, 3, none⟩ = some (.int .i64 t0) := Ha_1.out.cell 3
      have lt_b := Hb_1.out.lt
      have r_b0 : v1.cell? ⟨g1, 0, none⟩ = some (.int .i64 j0) := Hb_1.out.cell 0
      have r_b1 : v1.cell? ⟨g1, 1, none⟩ = some (.slice C n2 c2) := Hb_1.out.cell 1
      have r_b2 : v1.cell? ⟨g1, 2, none⟩ = some (.slice D m2 d2) := Hb_1.out.cell 2
      have r_b3 : v1.cell? ⟨g1, 3, none⟩ = some (.int .i64 u0) := Hb_1.out.cell 3
      have hv : sameClientB i0 wl gl t0 j0 xl yl u0 = false := by unfold sameClientB; rw [Hq1.out, Hq2.out]; simp
      have HV := Lib.hid hv
      clear hv
      go_wp21
      go_ret
      exact ⟨ret_bool HV.out.symm, f1⟩
    | true =>
      rw [q2] at cc
      have Hq2 := Lib.hid q2
      clear q2
      refine (cc).mono ?_
      rintro e v1 ⟨rfl, b1⟩
      have f1 := bthen f0 b1
      have z1 := b1.size
      have HP_1 := Lib.hid (HP_0.out.below b1)
      have HQ_1 := Lib.hid (HQ_0.out.below b1)
      have HR_1 := Lib.hid (HR_0.out.below b1)
      have HS_1 := Lib.hid (HS_0.out.below b1)
      have Ha_1 := Lib.hid (Ha_0.out.below b1)
      have Hb_1 := Lib.hid (Hb_0.out.below b1)
      clear lt_a r_a0 r_a1 r_a2 r_a3 lt_b r_b0 r_b1 r_b2 r_b3
      clear HP_0 HQ_0 HR_0 HS_0 Ha_0 Hb_0
      have lt_a := Ha_1.out.lt
      have r_a0 : v1.cell? ⟨w.heap.size, 0, none⟩ = some (.int .i64 i0) := Ha_1.out.cell 0
      have r_a1 : v1.cell? ⟨w.heap.size, 1, none⟩ = some (.slice A n c) := Ha_1.out.cell 1
      have r_a2 : v1.cell? ⟨w.heap.size, 2, none⟩ = some (.slice B m d) := Ha_1.out.cell 2
      have r_a3 : v1.cell? ⟨w.heap.size, 3, none⟩ = some (.int .i64 t0) := Ha_1.out.cell 3
      have lt_b := Hb_1.out.lt
      have r_b0 : v1.cell? ⟨g1, 0, none⟩ = some (.int .i64 j0) := Hb_1.out.cell 0
      have r_b1 : v1.cell? ⟨g1, 1, none⟩ = some (.slice C n2 c2) := Hb_1.out.cell 1
      have r_b2 : v1.cell? ⟨g1, 2, none⟩ = some (.slice D m2 d2) := Hb_1.out.cell 2
      have r_b3 : v1.cell? ⟨g1, 3, none⟩ = some (.int .i64 u0) := Hb_1.out.cell 3
      clear cc
      have cc := equalGotS_any B D m m2 d d2 (GT gl) (GT yl) v1 HQ_1.out HS_1.out hm hm2
      cases q3 : (eqL (GT gl) (GT yl)) with
      | false =>
        rw [q3] at cc
        have Hq3 := Lib.hid q3
        clear q3
        go_wp2_with fail
        refine (cc).mono ?_
        rintro e v2 ⟨rfl, b2⟩
        have f2 := bthen f1 b2
        have z2 := b2.size
        have HP_2 := Lib.hid (HP_1.out.below b2)
        have HQ_2 := Lib.hid (HQ_1.out.below b2)
        have HR_2 := Lib.hid (HR_1.out.below b2)
        have HS_2 := Lib.hid (HS_1.out.below b2)
        have Ha_2 := Lib.hid (Ha_1.out.below b2)
        have Hb_2 := Lib.hid (Hb_1.out.below b2)
        clear lt_a r_a0 r_a1 r_a2 r_a3 lt_b r_b0 r_b1 r_b2 r_b3
        clear HP_1 HQ_1 HR_1 HS_1 Ha_1 Hb_1
        have lt_a := Ha_2.out.lt
        have r_a0 : v2.cell? ⟨w.heap.size, 0, none⟩ = some (.int .i64 i0) := Ha_2.out.cell 0
        have r_a1 : v2.cell? ⟨w.heap.size, 1, none⟩ = some (.slice A n c) := Ha_2.out.cell 1
        have r_a2 : v2.cell? ⟨w.heap.size, 2, none⟩ = some (.slice B m d) := Ha_2.out.cell 2
        have r_a3 : v2.cell? ⟨w.heap.size, 3, none⟩ = some (.int .i64 t0) := Ha_2.out.cell 3
        have lt_b := Hb_2.out.lt
        have r_b0 : v2.cell? ⟨g1, 0, none⟩ = some (.int .i64 j0) := Hb_2.out.cell 0
        have r_b1 : v2.cell? ⟨g1, 1, none⟩ = some (.slice C n2 c2) := Hb_2.out.cell 1
        have r_b2 : v2.cell? ⟨g1, 2, none⟩ = some (.slice D m2 d2) := Hb_2.out.cell 2
        have r_b3 : v2.cell? ⟨g1, 3, none⟩ = some (.int .i64 u0) := Hb_2.out.cell 3
        have hv : sameClientB i0 wl gl t0 j0 xl yl u0 = false := by unfold sameClientB; rw [Hq1.out, Hq2.out, Hq3.out]; simp
        have HV := Lib.hid hv
        clear hv
        go_wp21
        go_ret
        exact ⟨ret_bool HV.out.symm, f2⟩
      | true =>
        rw [q3] at cc
        have Hq3 := Lib.hid q3
        clear q3
        go_wp2_with fail
        refine (cc).mono ?_
        rintro e v2 ⟨rfl, b2⟩
        have f2 := bthen f1 b2
        have z2 := b2.size
        have HP_2 := Lib.hid (HP_1.out.below b2)
        have HQ_2 := Lib.hid (HQ_1.out.below b2)
        have HR_2 := Lib.hid (HR_1.out.below b2)
        have HS_2 := Lib.hid (HS_1.out.below b2)
        have Ha_2 := Lib.hid (Ha_1.out.below b2)
        have Hb_2 := Lib.hid (Hb_1.out.below b2)
        clear lt_a r_a0 r_a1 r_a2 r_a3 lt_b r_b0 r_b1 r_b2 r_b3
        clear HP_1 HQ_1 HR_1 HS_1 Ha_1 Hb_1
        have lt_a := Ha_2.out.lt
        have r_a0 : v2.cell? ⟨w.heap.size, 0, none⟩ = some (.int .i64 i0) := Ha_2.out.cell 0
        have r_a1 : v2.cell? ⟨w.heap.size, 1, none⟩ = some (.slice A n c) := Ha_2.out.cell 1
        have r_a2 : v2.cell? ⟨w.heap.size, 2, none⟩ = some (.slice B m d) := Ha_2.out.cell 2
        have r_a3 : v2.cell? ⟨w.heap.size, 3, none⟩ = some (.int .i64 t0) := Ha_2.out.cell 3
        have lt_b := Hb_2.out.lt
        have r_b0 : v2.cell? ⟨g1, 0, none⟩ = some (.int .i64 j0) := Hb_2.out.cell 0
        have r_b1 : v2.cell? ⟨g1, 1, none⟩ = some (.slice C n2 c2) := Hb_2.out.cell 1
        have r_b2 : v2.cell? ⟨g1, 2, none⟩ = some (.slice D m2 d2) := Hb_2.out.cell 2
        have r_b3 : v2.cell? ⟨g1, 3, none⟩ = some (.int .i64 u0) := Hb_2.out.cell 3
        clear cc
        cases q4 : (t0 == u0) with
        | false =>
          have Hq4 := Lib.hid q4
          have hv : sameClientB i0 wl gl t0 j0 xl yl u0 = false := by unfold sameClientB; rw [Hq1.out, Hq2.out, Hq3.out, Hq4.out]; simp
          have HV := Lib.hid hv
          clear hv
          go_wp21
          go_ret
          exact ⟨ret_bool HV.out.symm, f2⟩
        | true =>
          have Hq4 : Hid ((t0 == u0) = true) := q4
          have hv : sameClientB i0 wl gl t0 j0 xl yl u0 = true := by unfold sameClientB; rw [Hq1.out, Hq2.out, Hq3.out, Hq4.out]; rfl
          have HV := Lib.hid hv
          clear hv
          go_wp21
          go_ret
          exact ⟨ret_bool HV.out.symm, f2⟩
set_option maxRecDepth 100000 in
set_option maxHeartbeats 4000000 in
theorem specSameClient_any (A : Option Addr) (n c : Nat) (B : Option Addr) (m d : Nat) (i0 t0 : Int) (C : Option Addr) (n2 c2 : Nat) (D : Option Addr) (m2 d2 : Nat) (j0 u0 : Int) (wl : List Wt) (gl : List Gt) (xl : List Wt) (yl : List Gt) (w : World) (hP : Sl w 7 A n (WT wl)) (hQ : Sl w 4 B m (GT gl)) (hR : Sl w 7 C n2 (WT xl)) (hS : Sl w 4 D m2 (GT yl)) (hl : wl.length = n) (hr : gl.length = m) (hl2 : xl.length = n2) (hr2 : yl.length = m2) (hn : n ≤ maxLen) (hm : m ≤ maxLen) (hn2 : n2 ≤ maxLen) (hm2 : m2 ≤ maxLen) :
    Calls Try.prog 15 #[.agg #[.int .i64 i0, .slice A n c, .slice B m d, .int .i64 t0], .agg #[.int .i64 j0, .slice C n2 c2, .slice D m2 d2, .int .i64 u0]] w fun e' w' => e' = .returned (.bool (sameClientB i0 wl gl t0 j0 xl yl u0)) ∧ Below w.heap.size w w' := by
  have HL := Lib.hid (And.intro (And.intro hl hr) (And.intro hl2 hr2))
  have HP := Lib.hid hP
  have HQ := Lib.hid hQ
  have HR := Lib.hid hR
  have HS := Lib.hid hS
  clear hP hQ hR hS hl hr hl2 hr2
  by_cases e1 : i0 = j0
  rotate_left
  · have hv := Lib.hid (show sameClientB i0 wl gl t0 j0 xl yl u0 = false by unfold sameClientB; rw [show (i0 == j0) = false by simpa using e1]; rfl)
    have e1b : (i0 != j0) = true := by simpa using e1
    go_enter Try.func15, Try.ntmps15
    go_wp21
    go_ret
    exact ⟨ret_bool hv.out.symm, by (repeat' (first | (with_reducible exact Below.refl _ _) | (with_reducible assumption) | (with_reducible refine Below.alloc ?_ ?_ _) | (with_reducible refine Below.drew ?_) | (with_reducible refine Below.setCell ?_ ?_ _) | (with_reducible refine bstep (by assumption) ?_ ?_) | (with_reducible exact Nat.le_refl _) | omega | (simp [*]; done) | (simp [*]; omega)))⟩
  subst e1
  by_cases e2 : t0 = u0
  rotate_left
  · have hv := Lib.hid (show sameClientB i0 wl gl t0 i0 xl yl u0 = false by unfold sameClientB; rw [show (t0 == u0) = false by simpa using e2]; simp)
    have e2b : (t0 != u0) = true := by simpa using e2
    go_enter Try.func15, Try.ntmps15
    go_wp21
    go_ret
    exact ⟨ret_bool hv.out.symm, by (repeat' (first | (with_reducible exact Below.refl _ _) | (with_reducible assumption) | (with_reducible refine Below.alloc ?_ ?_ _) | (with_reducible refine Below.drew ?_) | (with_reducible refine Below.setCell ?_ ?_ _) | (with_reducible refine bstep (by assumption) ?_ ?_) | (with_reducible exact Nat.le_refl _) | omega | (simp [*]; done) | (simp [*]; omega)))⟩
  subst e2
  by_cases e3 : n = n2
  rotate_left
  · have hv := Lib.hid (show sameClientB i0 wl gl t0 i0 xl yl t0 = false by exact sameC_todo (fun h => e3 (by have h1 := congrArg List.length h; rw [WT_len, WT_len, HL.out.1.1, HL.out.2.1] at h1; omega)))
    have e3b : ¬ (n : Int) = (n2 : Int) := by omega
    have e3c : ((n : Int) != (n2 : Int)) = true := by rw [bne_iff_ne]; omega
    go_enter Try.func15, Try.ntmps15
    go_wp21
    go_ret
    exact ⟨ret_bool hv.out.symm, by (repeat' (first | (with_reducible exact Below.refl _ _) | (with_reducible assumption) | (with_reducible refine Below.alloc ?_ ?_ _) | (with_reducible refine Below.drew ?_) | (with_reducible refine Below.setCell ?_ ?_ _) | (with_reducible refine bstep (by assumption) ?_ ?_) | (with_reducible exact Nat.le_refl _) | omega | (simp [*]; done) | (simp [*]; omega)))⟩
  subst e3
  by_cases e4 : m = m2
  rotate_left
  · have hv := Lib.hid (show sameClientB i0 wl gl t0 i0 xl yl t0 = false by exact sameC_gots (fun h => e4 (by have h1 := congrArg List.length h; rw [GT_len, GT_len, HL.out.1.2, HL.out.2.2] at h1; omega)))
    have e4b : ¬ (m : Int) = (m2 : Int) := by omega
    have e4c : ((m : Int) != (m2 : Int)) = true := by rw [bne_iff_ne]; omega
    go_enter Try.func15, Try.ntmps15
    go_wp21
    go_ret
    exact ⟨ret_bool hv.out.symm, by (repeat' (first | (with_reducible exact Below.refl _ _) | (with_reducible assumption) | (with_reducible refine Below.alloc ?_ ?_ _) | (with_reducible refine Below.drew ?_) | (with_reducible refine Below.setCell ?_ ?_ _) | (with_reducible refine bstep (by assumption) ?_ ?_) | (with_reducible exact Nat.le_refl _) | omega | (simp [*]; done) | (simp [*]; omega)))⟩
  subst e4
  unfold maxLen at hn hm
  clear hn2 hm2
  go_enter Try.func15, Try.ntmps15
  go_wp21
  go_loopw [5] (fun iv wr => ∃ (k : Nat), k ≤ n ∧ iv = .int .i64 k ∧ Below w.heap.size w wr ∧ Hid (Blk wr w.heap.size 31 #[.int .i64 i0, .slice A n c, .slice B m d, .int .i64 t0]) ∧ Hid (Blk wr (w.heap.size + 1) 31 #[.int .i64 i0, .slice C n c2, .slice D m d2, .int .i64 t0]) ∧ Hid (∀ j, j < k * 7 → (WT wl).getD j 0 = (WT xl).getD j 0)) (fun iv _ => n - (intOf iv).toNat)
  case atStart => exact ⟨0, Nat.zero_le _, rfl, by (repeat' (first | (with_reducible exact Below.refl _ _) | (with_reducible assumption) | (with_reducible refine Below.alloc ?_ ?_ _) | (with_reducible refine Below.drew ?_) | (with_reducible refine Below.setCell ?_ ?_ _) | (with_reducible refine bstep (by assumption) ?_ ?_) | (with_reducible exact Nat.le_refl _) | omega | (simp [*]; done) | (simp [*]; omega))), Lib.hid ((Blk.new_at _ _ _ _ (by simp)).alloc _), Lib.hid (Blk.new_at _ _ _ _ (by simp)), Lib.hid (fun j hj => absurd hj (by omega))⟩
  case round =>
    obtain ⟨k, hk, rfl, hbl, HKa, HKb, hall⟩ := hrel
    have lt_a := HKa.out.lt
    have r_a0 : wr.cell? ⟨w.heap.size, 0, none⟩ = some (.int .i64 i0) := HKa.out.cell 0
    have r_a1 : wr.cell? ⟨w.heap.size, 1, none⟩ = some (.slice A n c) := HKa.out.cell 1
    have r_a2 : wr.cell? ⟨w.heap.size, 2, none⟩ = some (.slice B m d) := HKa.out.cell 2
    have r_a3 : wr.cell? ⟨w.heap.size, 3, none⟩ = some (.int .i64 t0) := HKa.out.cell 3
    have lt_b := HKb.out.lt
    have r_b0 : wr.cell? ⟨w.heap.size + 1, 0, none⟩ = some (.int .i64 i0) := HKb.out.cell 0
    have r_b1 : wr.cell? ⟨w.heap.size + 1, 1, none⟩ = some (.slice C n c2) := HKb.out.cell 1
    have r_b2 : wr.cell? ⟨w.heap.size + 1, 2, none⟩ = some (.slice D m d2) := HKb.out.cell 2
    have r_b3 : wr.cell? ⟨w.heap.size + 1, 3, none⟩ = some (.int .i64 t0) := HKb.out.cell 3
    by_cases hlt : k < n
    · skip
      obtain ⟨b, off, hE1, hb, hcell⟩ := HP.out.at_ (by omega)
      subst hE1
      obtain ⟨b', off', hE2, hb', hcell'⟩ := HR.out.at_ (by omega)
      subst hE2
      have h0 := hcell (k * 7) (by omega)
      have h1 := hcell (k * 7 + 1) (by omega)
      have h2 := hcell (k * 7 + 2) (by omega)
      have h3 := hcell (k * 7 + 3) (by omega)
      have h4 := hcell (k * 7 + 4) (by omega)
      have h5 := hcell (k * 7 + 5) (by omega)
      have h6 := hcell (k * 7 + 6) (by omega)
      have p0 := hcell' (k * 7) (by omega)
      have p1 := hcell' (k * 7 + 1) (by omega)
      have p2 := hcell' (k * 7 + 2) (by omega)
      have p3 := hcell' (k * 7 + 3) (by omega)
      have p4 := hcell' (k * 7 + 4) (by omega)
      have p5 := hcell' (k * 7 + 5) (by omega)
      have p6 := hcell' (k * 7 + 6) (by omega)
      rw [← hbl.cell (by exact hb)] at h0 h1 h2 h3 h4 h5 h6
      rw [← hbl.cell (by exact hb')] at p0 p1 p2 p3 p4 p5 p6
      simp only [← Nat.add_assoc] at h0 h1 h2 h3 h4 h5 h6 p0 p1 p2 p3 p4 p5 p6
      clear hcell hcell'
      generalize hx0 : (WT wl).getD (k * 7) 0 = x0 at h0
      generalize hx1 : (WT wl).getD (k * 7 + 1) 0 = x1 at h1
      generalize hx2 : (WT wl).getD (k * 7 + 2) 0 = x2 at h2
      generalize hx3 : (WT wl).getD (k * 7 + 3) 0 = x3 at h3
      generalize hx4 : (WT wl).getD (k * 7 + 4) 0 = x4 at h4
      generalize hx5 : (WT wl).getD (k * 7 + 5) 0 = x5 at h5
      generalize hx6 : (WT wl).getD (k * 7 + 6) 0 = x6 at h6
      generalize hy0 : (WT xl).getD (k * 7) 0 = y0 at p0
      generalize hy1 : (WT xl).getD (k * 7 + 1) 0 = y1 at p1
      generalize hy2 : (WT xl).getD (k * 7 + 2) 0 = y2 at p2
      generalize hy3 : (WT xl).getD (k * 7 + 3) 0 = y3 at p3
      generalize hy4 : (WT xl).getD (k * 7 + 4) 0 = y4 at p4
      generalize hy5 : (WT xl).getD (k * 7 + 5) 0 = y5 at p5
      generalize hy6 : (WT xl).getD (k * 7 + 6) 0 = y6 at p6
      have HX := Lib.hid (show (WT wl).getD (k * 7) 0 = x0 ∧ (WT wl).getD (k * 7 + 1) 0 = x1 ∧ (WT wl).getD (k * 7 + 2) 0 = x2 ∧ (WT wl).getD (k * 7 + 3) 0 = x3 ∧ (WT wl).getD (k * 7 + 4) 0 = x4 ∧ (WT wl).getD (k * 7 + 5) 0 = x5 ∧ (WT wl).getD (k * 7 + 6) 0 = x6 from ⟨hx0, hx1, hx2, hx3, hx4, hx5, hx6⟩)
      have HY := Lib.hid (show (WT xl).getD (k * 7) 0 = y0 ∧ (WT xl).getD (k * 7 + 1) 0 = y1 ∧ (WT xl).getD (k * 7 + 2) 0 = y2 ∧ (WT xl).getD (k * 7 + 3) 0 = y3 ∧ (WT xl).getD (k * 7 + 4) 0 = y4 ∧ (WT xl).getD (k * 7 + 5) 0 = y5 ∧ (WT xl).getD (k * 7 + 6) 0 = y6 from ⟨hy0, hy1, hy2, hy3, hy4, hy5, hy6⟩)
      clear hx0 hy0 hx1 hy1 hx2 hy2 hx3 hy3 hx4 hy4 hx5 hy5 hx6 hy6
      have hbr : b < wr.heap.size := Nat.lt_of_lt_of_le hb hbl.size
      have hbr' : b' < wr.heap.size := Nat.lt_of_lt_of_le hb' hbl.size
      have hk2 : (k : Int) < (n : Int) := by omega
      have hne := fun w0 => want_neq x0 x1 x2 x3 x4 x5 x6 y0 y1 y2 y3 y4 y5 y6 w0
      cases hq : eqL [x0, x1, x2, x3, x4, x5, x6] [y0, y1, y2, y3, y4, y5, y6] with
      | false =>
        rw [hq] at hne
        have HE := Lib.hid hq
        clear hq
        simp only [Bool.not_false] at hne
        have HV := Lib.hid (show sameClientB i0 wl gl t0 i0 xl yl t0 = false from sameC_todo (list7_ne HX.out HY.out HE.out))
        go_wp2
        ((refine wp_region_ext (by kernel_rfl) (by kernel_rfl) ?_); (repeat (any_goals (first | go_big_quiet_step (fail) | (refine wpQuiet_step (fun K hK => ?_); go_simp; split <;> (refine hK _ ?_; clear hK K)) | quiet_step (fail)))); (all_goals (refine wpQuiet_nil ?_; rintro _ ⟨z, rfl⟩; have hb' := z.h; generalize z.w = w1 at hb' ⊢; clear z; (first | (have hb2 := bstep hb' hb hb.size; clear hb' hcb hfb hz1 hz2 hz3 hz4 hb; have hb := hb2; clear hb2) | (have hb := hb'; clear hb')); obtain ⟨hcb, hfb, hz1, hz2, hz3, hz4⟩ := bcell hb; (try simp only [World.size_alloc, World.size_setCell, World.size_drew, Nat.lt_add_one_iff, Nat.add_assoc, Nat.reduceAdd] at hz1 hz2 hz3 hz4))))
        go_wp21
        go_ret
        exact ⟨ret_bool HV.out.symm, bstep hb hbl hbl.size⟩
      | true =>
        rw [hq] at hne
        have HE := Lib.hid hq
        clear hq
        simp only [Bool.not_true] at hne
        go_wp2
        ((refine wp_region_ext (by kernel_rfl) (by kernel_rfl) ?_); (repeat (any_goals (first | go_big_quiet_step (fail) | (refine wpQuiet_step (fun K hK => ?_); go_simp; split <;> (refine hK _ ?_; clear hK K)) | quiet_step (fail)))); (all_goals (refine wpQuiet_nil ?_; rintro _ ⟨z, rfl⟩; have hb' := z.h; generalize z.w = w1 at hb' ⊢; clear z; (first | (have hb2 := bstep hb' hb hb.size; clear hb' hcb hfb hz1 hz2 hz3 hz4 hb; have hb := hb2; clear hb2) | (have hb := hb'; clear hb')); obtain ⟨hcb, hfb, hz1, hz2, hz3, hz4⟩ := bcell hb; (try simp only [World.size_alloc, World.size_setCell, World.size_drew, Nat.lt_add_one_iff, Nat.add_assoc, Nat.reduceAdd] at hz1 hz2 hz3 hz4))))
        have HKa2 := Lib.hid (HKa.out.below hb)
        have HKb2 := Lib.hid (HKb.out.below hb)
        go_wp21
        refine ⟨⟨k + 1, by omega, by go_num, bstep hb hbl hbl.size, HKa2, HKb2, Lib.hid ?_⟩, by simp [intOf]; omega⟩
        intro j hj
        by_cases h : j < k * 7
        · exact hall.out j h
        · exact list7 HX.out HY.out HE.out j (by omega) (by omega)
    · have hkn : n = k := by omega
      subst hkn
      have HWT := Lib.hid (show WT wl = WT xl from list_ext_getD (by rw [HP.out.len, HR.out.len]) (fun j hj => hall.out j (by rw [HP.out.len] at hj; omega)))
      have hlt' : ¬ (n : Int) < (n : Int) := by omega
      clear hall
      go_wp21
      clear lt_a lt_b r_a0 r_b0 r_a1 r_b1 r_a2 r_b2 r_a3 r_b3
      go_loopw [6] (fun iv wr => ∃ (k : Nat), k ≤ m ∧ iv = .int .i64 k ∧ Below w.heap.size w wr ∧ Hid (Blk wr w.heap.size 31 #[.int .i64 i0, .slice A n c, .slice B m d, .int .i64 t0]) ∧ Hid (Blk wr (w.heap.size + 1) 31 #[.int .i64 i0, .slice C n c2, .slice D m d2, .int .i64 t0]) ∧ Hid (∀ j, j < k * 4 → (GT gl).getD j 0 = (GT yl).getD j 0)) (fun iv _ => m - (intOf iv).toNat)
      case atStart => exact ⟨0, Nat.zero_le _, rfl, hbl, HKa, HKb, Lib.hid (fun j hj => absurd hj (by omega))⟩
      case round =>
        clear hbl HKa HKb
        obtain ⟨k, hk, rfl, hbl, HKa, HKb, hall⟩ := hrel
        have lt_a := HKa.out.lt
        have r_a0 : wr.cell? ⟨w.heap.size, 0, none⟩ = some (.int .i64 i0) := HKa.out.cell 0
        have r_a1 : wr.cell? ⟨w.heap.size, 1, none⟩ = some (.slice A n c) := HKa.out.cell 1
        have r_a2 : wr.cell? ⟨w.heap.size, 2, none⟩ = some (.slice B m d) := HKa.out.cell 2
        have r_a3 : wr.cell? ⟨w.heap.size, 3, none⟩ = some (.int .i64 t0) := HKa.out.cell 3
        have lt_b := HKb.out.lt
        have r_b0 : wr.cell? ⟨w.heap.size + 1, 0, none⟩ = some (.int .i64 i0) := HKb.out.cell 0
        have r_b1 : wr.cell? ⟨w.heap.size + 1, 1, none⟩ = some (.slice C n c2) := HKb.out.cell 1
        have r_b2 : wr.cell? ⟨w.heap.size + 1, 2, none⟩ = some (.slice D m d2) := HKb.out.cell 2
        have r_b3 : wr.cell? ⟨w.heap.size + 1, 3, none⟩ = some (.int .i64 t0) := HKb.out.cell 3
        by_cases hlt : k < m
        · skip
          obtain ⟨b, off, hE1, hb, hcell⟩ := HQ.out.at_ (by omega)
          subst hE1
          obtain ⟨b', off', hE2, hb', hcell'⟩ := HS.out.at_ (by omega)
          subst hE2
          have h0 := hcell (k * 4) (by omega)
          have h1 := hcell (k * 4 + 1) (by omega)
          have h2 := hcell (k * 4 + 2) (by omega)
          have h3 := hcell (k * 4 + 3) (by omega)
          have p0 := hcell' (k * 4) (by omega)
          have p1 := hcell' (k * 4 + 1) (by omega)
          have p2 := hcell' (k * 4 + 2) (by omega)
          have p3 := hcell' (k * 4 + 3) (by omega)
          rw [← hbl.cell (by exact hb)] at h0 h1 h2 h3
          rw [← hbl.cell (by exact hb')] at p0 p1 p2 p3
          simp only [← Nat.add_assoc] at h0 h1 h2 h3 p0 p1 p2 p3
          clear hcell hcell'
          generalize hx0 : (GT gl).getD (k * 4) 0 = x0 at h0
          generalize hx1 : (GT gl).getD (k * 4 + 1) 0 = x1 at h1
          generalize hx2 : (GT gl).getD (k * 4 + 2) 0 = x2 at h2
          generalize hx3 : (GT gl).getD (k * 4 + 3) 0 = x3 at h3
          generalize hy0 : (GT yl).getD (k * 4) 0 = y0 at p0
          generalize hy1 : (GT yl).getD (k * 4 + 1) 0 = y1 at p1
          generalize hy2 : (GT yl).getD (k * 4 + 2) 0 = y2 at p2
          generalize hy3 : (GT yl).getD (k * 4 + 3) 0 = y3 at p3
          have HX := Lib.hid (show (GT gl).getD (k * 4) 0 = x0 ∧ (GT gl).getD (k * 4 + 1) 0 = x1 ∧ (GT gl).getD (k * 4 + 2) 0 = x2 ∧ (GT gl).getD (k * 4 + 3) 0 = x3 from ⟨hx0, hx1, hx2, hx3⟩)
          have HY := Lib.hid (show (GT yl).getD (k * 4) 0 = y0 ∧ (GT yl).getD (k * 4 + 1) 0 = y1 ∧ (GT yl).getD (k * 4 + 2) 0 = y2 ∧ (GT yl).getD (k * 4 + 3) 0 = y3 from ⟨hy0, hy1, hy2, hy3⟩)
          clear hx0 hy0 hx1 hy1 hx2 hy2 hx3 hy3
          have hbr : b < wr.heap.size := Nat.lt_of_lt_of_le hb hbl.size
          have hbr' : b' < wr.heap.size := Nat.lt_of_lt_of_le hb' hbl.size
          have hk2 : (k : Int) < (m : Int) := by omega
          have hne := fun w0 => got_neq x0 x1 x2 x3 y0 y1 y2 y3 w0
          cases hq : eqL [x0, x1, x2, x3] [y0, y1, y2, y3] with
          | false =>
            rw [hq] at hne
            have HE := Lib.hid hq
            clear hq
            simp only [Bool.not_false] at hne
            have HV := Lib.hid (show sameClientB i0 wl gl t0 i0 xl yl t0 = false from sameC_gots (list4_ne HX.out HY.out HE.out))
            go_wp2
            ((refine wp_region_ext (by kernel_rfl) (by kernel_rfl) ?_); (repeat (any_goals (first | go_big_quiet_step (fail) | (refine wpQuiet_step (fun K hK => ?_); go_simp; split <;> (refine hK _ ?_; clear hK K)) | quiet_step (fail)))); (all_goals (refine wpQuiet_nil ?_; rintro _ ⟨z, rfl⟩; have hb' := z.h; generalize z.w = w1 at hb' ⊢; clear z; (first | (have hb2 := bstep hb' hb hb.size; clear hb' hcb hfb hz1 hz2 hz3 hz4 hb; have hb := hb2; clear hb2) | (have hb := hb'; clear hb')); obtain ⟨hcb, hfb, hz1, hz2, hz3, hz4⟩ := bcell hb; (try simp only [World.size_alloc, World.size_setCell, World.size_drew, Nat.lt_add_one_iff, Nat.add_assoc, Nat.reduceAdd] at hz1 hz2 hz3 hz4))))
            go_wp21
            go_ret
            exact ⟨ret_bool HV.out.symm, bstep hb hbl hbl.size⟩
          | true =>
            rw [hq] at hne
            have HE := Lib.hid hq
            clear hq
            simp only [Bool.not_true] at hne
            go_wp2
            ((refine wp_region_ext (by kernel_rfl) (by kernel_rfl) ?_); (repeat (any_goals (first | go_big_quiet_step (fail) | (refine wpQuiet_step (fun K hK => ?_); go_simp; split <;> (refine hK _ ?_; clear hK K)) | quiet_step (fail)))); (all_goals (refine wpQuiet_nil ?_; rintro _ ⟨z, rfl⟩; have hb' := z.h; generalize z.w = w1 at hb' ⊢; clear z; (first | (have hb2 := bstep hb' hb hb.size; clear hb' hcb hfb hz1 hz2 hz3 hz4 hb; have hb := hb2; clear hb2) | (have hb := hb'; clear hb')); obtain ⟨hcb, hfb, hz1, hz2, hz3, hz4⟩ := bcell hb; (try simp only [World.size_alloc, World.size_setCell, World.size_drew, Nat.lt_add_one_iff, Nat.add_assoc, Nat.reduceAdd] at hz1 hz2 hz3 hz4))))
            have HKa2 := Lib.hid (HKa.out.below hb)
            have HKb2 := Lib.hid (HKb.out.below hb)
            go_wp21
            refine ⟨⟨k + 1, by omega, by go_num, bstep hb hbl hbl.size, HKa2, HKb2, Lib.hid ?_⟩, by simp [intOf]; omega⟩
            intro j hj
            by_cases h : j < k * 4
            · exact hall.out j h
            · exact list4 HX.out HY.out HE.out j (by omega) (by omega)
        · have hkn : m = k := by omega
          subst hkn
          have HV := Lib.hid (show sameClientB i0 wl gl t0 i0 xl yl t0 = true by
            have h2 : GT gl = GT yl := list_ext_getD (by rw [HQ.out.len, HS.out.len]) (fun j hj => hall.out j (by rw [HQ.out.len] at hj; omega))
            unfold sameClientB
            rw [HWT.out, h2, eqL_self, eqL_self]; simp)
          have hlt' : ¬ (m : Int) < (m : Int) := by omega
          clear hall
          go_wp21
          go_ret
          exact ⟨ret_bool HV.out.symm, hbl⟩
end Go.Proofs.Ytbcpcddmekoaeaa

/- Clients: AllDone, pending, NextSeq, the program's and the reference's. -/
import Derived.Test.YtckbnfgdjdppfaaC2
namespace Go.Proofs.Ytckbnfgdjdppfaa
set_option linter.unusedSimpArgs false
set_option linter.unusedVariables false
attribute [local go_sem] n_lt2 n_lt3 n_lt4 n_le2 n_le3
open Go.RowKit
def doneB (i0 : Int) (wl : List Wt) (gl : List Gt) (t0 : Int) : Bool := clientB i0 wl gl t0 && decide (gl.length = wl.length)
def pendW (wl : List Wt) (gl : List Gt) : Wt := if gl.length = wl.length then default else wl.getD gl.length default
def pendS (wl : List Wt) (gl : List Gt) : Int := if gl.length = wl.length then 0 else (gl.length : Int) + 1
def seqI (i0 : Int) (wl : List Wt) (gl : List Gt) (t0 : Int) : Int := if clientB i0 wl gl t0 = true then pendS wl gl else 0
theorem clientB_le {i0 t0 : Int} {wl : List Wt} {gl : List Gt} (h : clientB i0 wl gl t0 = true) : wl.length ≤ 12 ∧ gl.length ≤ wl.length := by
  unfold clientB at h
  simp only [Bool.and_eq_true, decide_eq_true_eq] at h
  exact ⟨h.2.1, h.2.2.2.1⟩
attribute [local go_sem] Ext.cell Ext.frozen
set_option maxRecDepth 100000 in
set_option maxHeartbeats 1000000 in
theorem allDone_any (A : Option Addr) (n c : Nat) (B : Option Addr) (m d : Nat) (i0 t0 : Int) (wl : List Wt) (gl : List Gt) (w : World) (hP : Sl w 7 A n (WT wl)) (hQ : Sl w 4 B m (GT gl)) (hl : wl.length = n) (hr : gl.length = m) (hn : n ≤ maxLen) (hm : m ≤ maxLen) :
    Calls Try.prog 11 #[.agg #[.int .i64 i0, .slice A n c, .slice B m d, .int .i64 t0]] w fun e' w' => e' = .returned (.bool (doneB i0 wl gl t0)) ∧ Below w.heap.size w w' := by
  have hL := Lib.hid hl
  have hR := Lib.hid hr
  have HP := Lib.hid hP
  have HQ := Lib.hid hQ
  clear hP hQ hl hr
  go_enter Try.func11, Try.ntmps11
  go_wp2_with fail
  refine calls_named ?_
  rintro v0 hv0
  have f0 : Below w.heap.size w v0 := by rw [hv0]; (repeat' (first | (with_reducible exact Below.refl _ _) | (with_reducible assumption) | (with_reducible refine Below.alloc ?_ ?_ _) | (with_reducible refine Below.drew ?_) | (with_reducible refine Below.setCell ?_ ?_ _) | (with_reducible refine bstep (by assumption) ?_ ?_) | (with_reducible exact Nat.le_refl _) | omega | (simp [*]; done) | (simp [*]; omega)))
  have HK := Lib.hid (show Blk v0 w.heap.size 32 #[.int .i64 i0, .slice A n c, .slice B m d, .int .i64 t0] by rw [hv0]; exact Blk.new _ _ _)
  clear hv0
  have c1 := clientOk_any A n c B m d i0 t0 wl gl v0 (HP.out.below f0) (HQ.out.below f0) hL.out hR.out hn hm
  unfold maxLen at hn hm
  cases hq : clientB i0 wl gl t0 with
  | false =>
    rw [hq] at c1
    have hv := Lib.hid (show doneB i0 wl gl t0 = false by unfold doneB; rw [hq]; rfl)
    clear hq
    refine c1.mono ?_
    rintro e v1 ⟨rfl, b1⟩
    go_wp21
    go_ret
    exact ⟨ret_bool hv.out.symm, bthen f0 b1⟩
  | true =>
    rw [hq] at c1
    have hv := Lib.hid (show doneB i0 wl gl t0 = decide (m = n) by unfold doneB; rw [hq, hL.out, hR.out]; rfl)
    clear hq
    refine c1.mono ?_
    rintro e v1 ⟨rfl, b1⟩
    have HK1 := Lib.hid (HK.out.below b1)
    clear HK
    have lt_c := HK1.out.lt
    have r_c0 : v1.cell? ⟨w.heap.size, 0, none⟩ = some (.int .i64 i0) := HK1.out.cell 0
    have r_c1 : v1.cell? ⟨w.heap.size, 1, none⟩ = some (.slice A n c) := HK1.out.cell 1
    have r_c2 : v1.cell? ⟨w.heap.size, 2, none⟩ = some (.slice B m d) := HK1.out.cell 2
    have r_c3 : v1.cell? ⟨w.heap.size, 3, none⟩ = some (.int .i64 t0) := HK1.out.cell 3
    by_cases hmn : m = n
    · subst hmn
      go_wp21
      go_ret
      exact ⟨ret_bool (by rw [hv.out]; simp), bthen f0 b1⟩
    · have hmn' : ¬ (m : Int) = (n : Int) := by omega
      have hmn2 : ((m : Int) == (n : Int)) = false := by simpa using hmn'
      go_wp21
      go_ret
      exact ⟨ret_bool (by rw [hv.out]; simp [hmn]), bthen f0 b1⟩
set_option maxRecDepth 100000 in
set_option maxHeartbeats 2000000 in
theorem pending_any (A : Option Addr) (n c : Nat) (B : Option Addr) (m d : Nat) (i0 t0 : Int) (wl : List Wt) (gl : List Gt) (w : World) (hP : Sl w 7 A n (WT wl)) (hQ : Sl w 4 B m (GT gl)) (hl : wl.length = n) (hr : gl.length = m) (hn : n ≤ maxLen) (hm : m ≤ maxLen) (hmn0 : m ≤ n) :
    Calls Try.prog 18 #[.agg #[.int .i64 i0, .slice A n c, .slice B m d, .int .i64 t0]] w fun e' w' => e' = .returned (.tuple #[.agg #[.int .i64 (pendW wl gl).k, .int .i64 (pendW wl gl).o, .int .i64 (pendW wl gl).a, .int .i64 (pendW wl gl).b, .int .i64 (pendW wl gl).c, .int .i64 (pendW wl gl).d, .int .i64 (pendW wl gl).y], .int .i64 (pendS wl gl)]) ∧ Below w.heap.size w w' := by
  have hL := Lib.hid hl
  have hR := Lib.hid hr
  have HP := Lib.hid hP
  have HQ := Lib.hid hQ
  clear hP hQ hl hr
  unfold maxLen at hn hm
  by_cases hmn : m = n
  · have h1 := Lib.hid (show pendW wl gl = default by unfold pendW; rw [if_pos (by rw [hL.out, hR.out]; exact hmn)])
    have h2 := Lib.hid (show pendS wl gl = 0 by unfold pendS; rw [if_pos (by rw [hL.out, hR.out]; exact hmn)])
    subst hmn
    go_enter Try.func18, Try.ntmps18
    go_wp21
    refine bodyPost_ret (v := .tuple #[.agg #[.int .i64 0, .int .i64 0, .int .i64 0, .int .i64 0, .int .i64 0, .int .i64 0, .int .i64 0], .int .i64 0]) (by simp [results, Try.results18, go_sem, *]) rfl ⟨by rw [h1.out, h2.out]; rfl, by (repeat' (first | (with_reducible exact Below.refl _ _) | (with_reducible assumption) | (with_reducible refine Below.alloc ?_ ?_ _) | (with_reducible refine Below.drew ?_) | (with_reducible refine Below.setCell ?_ ?_ _) | (with_reducible refine bstep (by assumption) ?_ ?_) | (with_reducible exact Nat.le_refl _) | omega | (simp [*]; done) | (simp [*]; omega)))⟩
  · have hmn' : ¬ (m : Int) = (n : Int) := by omega
    have hmn2 : ((m : Int) == (n : Int)) = false := by simpa using hmn'
    have hlt : (m : Int) < (n : Int) := by omega

    have hwk : IntKind.i64.wrap ((m : Int) + 1) = (m : Int) + 1 := by simp [IntKind.wrap, IntKind.bits, IntKind.signed]; omega
    have h2 := Lib.hid (show pendS wl gl = (m : Int) + 1 by unfold pendS; rw [if_neg (by rw [hL.out, hR.out]; exact hmn), hR.out])
    have h1 := Lib.hid (show pendW wl gl = wl.getD m default by unfold pendW; rw [if_neg (by rw [hL.out, hR.out]; exact hmn), hR.out])
    obtain ⟨bw, ow, rfl, hbw, hcw⟩ := sl_wants HP.out (by omega)
    obtain ⟨g0, g1, g2, g3, g4, g5, g6⟩ := hcw m (by omega)
    clear hcw
    generalize wl.getD m default = p at g0 g1 g2 g3 g4 g5 g6 h1
    obtain ⟨k, o, a, b, c0, d0, y⟩ := p
    simp only at g0 g1 g2 g3 g4 g5 g6
    go_enter Try.func18, Try.ntmps18
    go_wp2
    go_region
    go_wp21
    refine bodyPost_ret (v := .tuple #[.agg #[.int .i64 k, .int .i64 o, .int .i64 a, .int .i64 b, .int .i64 c0, .int .i64 d0, .int .i64 y], .int .i64 ((m : Int) + 1)]) (by simp [results, Try.results18, go_sem, *]) rfl ⟨by rw [h1.out, h2.out], by (repeat' (first | (with_reducible exact Below.refl _ _) | (with_reducible assumption) | (with_reducible refine Below.alloc ?_ ?_ _) | (with_reducible refine Below.drew ?_) | (with_reducible refine Below.setCell ?_ ?_ _) | (with_reducible refine bstep (by assumption) ?_ ?_) | (with_reducible exact Nat.le_refl _) | omega | (simp [*]; done) | (simp [*]; omega)))⟩
set_option maxRecDepth 100000 in
set_option maxHeartbeats 1000000 in
theorem nextSeq_any (A : Option Addr) (n c : Nat) (B : Option Addr) (m d : Nat) (i0 t0 : Int) (wl : List Wt) (gl : List Gt) (w : World) (hP : Sl w 7 A n (WT wl)) (hQ : Sl w 4 B m (GT gl)) (hl : wl.length = n) (hr : gl.length = m) (hn : n ≤ maxLen) (hm : m ≤ maxLen) :
    Calls Try.prog 12 #[.agg #[.int .i64 i0, .slice A n c, .slice B m d, .int .i64 t0]] w fun e' w' => e' = .returned (.int .i64 (seqI i0 wl gl t0)) ∧ Below w.heap.size w w' := by
  have hL := Lib.hid hl
  have hR := Lib.hid hr
  have HP := Lib.hid hP
  have HQ := Lib.hid hQ
  clear hP hQ hl hr
  go_enter Try.func12, Try.ntmps12
  go_wp2_with fail
  refine calls_named ?_
  rintro v0 hv0
  have f0 : Below w.heap.size w v0 := by rw [hv0]; (repeat' (first | (with_reducible exact Below.refl _ _) | (with_reducible assumption) | (with_reducible refine Below.alloc ?_ ?_ _) | (with_reducible refine Below.drew ?_) | (with_reducible refine Below.setCell ?_ ?_ _) | (with_reducible refine bstep (by assumption) ?_ ?_) | (with_reducible exact Nat.le_refl _) | omega | (simp [*]; done) | (simp [*]; omega)))
  have HK := Lib.hid (show Blk v0 w.heap.size 32 #[.int .i64 i0, .slice A n c, .slice B m d, .int .i64 t0] by rw [hv0]; exact Blk.new _ _ _)
  clear hv0
  have c1 := clientOk_any A n c B m d i0 t0 wl gl v0 (HP.out.below f0) (HQ.out.below f0) hL.out hR.out hn hm
  unfold maxLen at hn hm
  cases hq : clientB i0 wl gl t0 with
  | false =>
    rw [hq] at c1
    have hv := Lib.hid (show seqI i0 wl gl t0 = 0 by unfold seqI; rw [hq]; rfl)
    clear hq
    refine c1.mono ?_
    rintro e v1 ⟨rfl, b1⟩
    go_wp21
    go_ret
    exact ⟨ret_int hv.out.symm, bthen f0 b1⟩
  | true =>
    rw [hq] at c1
    have hv := Lib.hid (show seqI i0 wl gl t0 = pendS wl gl by unfold seqI; rw [hq]; rfl)
    have hle := clientB_le hq
    rw [hL.out, hR.out] at hle
    obtain ⟨hn12, hmn0⟩ := hle
    clear hq
    refine c1.mono ?_
    rintro e v1 ⟨rfl, b1⟩
    have HK1 := Lib.hid (HK.out.below b1)
    have f1 := bthen f0 b1
    clear HK
    have lt_c := HK1.out.lt
    have r_c0 : v1.cell? ⟨w.heap.size, 0, none⟩ = some (.int .i64 i0) := HK1.out.cell 0
    have r_c1 : v1.cell? ⟨w.heap.size, 1, none⟩ = some (.slice A n c) := HK1.out.cell 1
    have r_c2 : v1.cell? ⟨w.heap.size, 2, none⟩ = some (.slice B m d) := HK1.out.cell 2
    have r_c3 : v1.cell? ⟨w.heap.size, 3, none⟩ = some (.int .i64 t0) := HK1.out.cell 3
    have c2 := pending_any A n c B m d i0 t0 wl gl v1 (HP.out.below f1) (HQ.out.below f1) hL.out hR.out (by unfold maxLen; omega) (by unfold maxLen; omega) hmn0
    generalize pendW wl gl = pw at c2
    generalize pendS wl gl = ps at c2 hv
    obtain ⟨k, o, a, b, c0, d0, y⟩ := pw
    simp only at c2
    go_wp2_with fail
    refine c2.mono ?_
    rintro e v2 ⟨rfl, b2⟩
    have f2 := bthen f1 b2
    go_wp21
    go_ret
    exact ⟨ret_int hv.out.symm, f2.alloc f2.size _⟩
end Go.Proofs.Ytckbnfgdjdppfaa

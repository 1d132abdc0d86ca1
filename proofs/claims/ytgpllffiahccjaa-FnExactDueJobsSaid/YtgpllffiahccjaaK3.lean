/- chosen: the jobs that a method chooses. -/
import Derived.Test.YtgpllffiahccjaaJ6
import Derived.Test.YtgpllffiahccjaaSJob
import Derived.Test.YtgpllffiahccjaaP7
import Derived.Test.YtgpllffiahccjaaOpenL
import Derived.Test.YtgpllffiahccjaaApp
import Derived.Test.YtgpllffiahccjaaBk
namespace Go.Proofs.Ytgpllffiahccjaa
set_option linter.unusedSimpArgs false
set_option linter.unusedVariables false
attribute [local go_sem] n_lt2 n_lt3 n_lt4 n_le2 n_le3
open Go.RowKit
attribute [local go_sem] Ext.cell Ext.frozen
theorem beqD (a b : Int) : (a == b) = decide (a = b) := by by_cases h : a = b <;> simp [h]
theorem btr {lo : Nat} {w a b : World} (h1 : Below lo w a) (h2 : Below lo a b) : Below lo w b :=
  ⟨h2.os.trans h1.os, h2.tape.trans h1.tape, h2.output.trans h1.output, Nat.le_trans h1.size h2.size, fun k hk => (h2.block k hk).trans (h1.block k hk)⟩
theorem job_open_any (x0 x1 x2 x3 x4 : Int) (w : World) : Calls Try.prog 109 #[.agg #[.int .i64 x0, .int .i64 x1, .int .i64 x2, .int .i64 x3, .int .i64 x4]] w fun e w' => e = .returned (.bool (openJ ⟨x0, x1, x2, x3, x4⟩)) ∧ Below w.heap.size w w' := by
  go_enter Try.func109, Try.ntmps109
  go_wp2
  go_ret
  exact ⟨ret_bool (by unfold openJ; exact beqD _ _), by (repeat' (first | (with_reducible exact Below.refl _ _) | (with_reducible assumption) | (with_reducible refine Below.alloc ?_ ?_ _) | (with_reducible refine Below.drew ?_) | (with_reducible refine Below.setCell ?_ ?_ _) | (with_reducible refine bstep (by assumption) ?_ ?_) | (with_reducible exact Nat.le_refl _) | omega | (simp [*]; done) | (simp [*]; omega)))⟩
set_option maxRecDepth 100000 in
set_option maxHeartbeats 4000000 in
theorem chosen_open_any (A : Option Addr) (n cap : Nat) (l : List Jb) (w : World) (hS : Sl w 5 A n (JB l)) (hl : l.length = n) (hn : n ≤ 1000) :
    Calls Try.prog 117 #[.slice A n cap, .func (.func 109) #[] #[]] w fun e w' => ∃ g c, e = .returned (.slice (some ⟨g, 0, none⟩) (l.filter openJ).length c) ∧ Row w' w.heap.size 68 5 (some ⟨g, 0, none⟩) (l.filter openJ).length c (JB (l.filter openJ)) ∧ Below w.heap.size w w' := by
  have HS := Lib.hid hS
  have hL := Lib.hid hl
  clear hS hl
  go_enter Try.func117, Try.ntmps117
  go_wp2
  go_loopw [5, 11] (fun o iv wr => ∃ (k : Nat) (g c : Nat) (y : List Jb), k ≤ n ∧ iv = .int .i64 (k : Nat) ∧ o = .slice (some ⟨g, 0, none⟩) y.length c ∧ Row wr w.heap.size 68 5 (some ⟨g, 0, none⟩) y.length c (JB y) ∧ Hid (y = (l.take k).filter openJ ∧ y.length ≤ k) ∧ Below w.heap.size w wr) (fun _ iv _ => n - (intOf iv).toNat)
  case atStart => exact ⟨0, w.heap.size, 0, [], Nat.zero_le _, rfl, rfl, row0p (Blk.new w _ _) (Nat.le_refl _), Lib.hid ⟨rfl, Nat.le_refl _⟩, (Below.refl _ _).alloc (Nat.le_refl _) _⟩
  case round =>
    obtain ⟨k, g, c, y, hk, rfl, rfl, R, hy, hbl⟩ := hrel
    have hz := hbl.size
    by_cases hlt : k < n
    · have hlt' : (k : Int) < (n : Int) := by omega
      obtain ⟨b, off, rfl, hb, hcell⟩ := sl_jobs HS.out (by omega)
      obtain ⟨h0, h1, h2, h3, h4⟩ := hcell k hlt
      clear hcell
      rw [← hbl.cell (by exact hb)] at h0 h1 h2 h3 h4
      have htk : l.take (k + 1) = l.take k ++ [l.getD k default] := take_succ_getD (by rw [hL.out]; exact hlt)
      have hTK := Lib.hid htk
      clear htk
      generalize l.getD k default = pk at h0 h1 h2 h3 h4 hTK
      obtain ⟨x0, x1, x2, x3, x4⟩ := pk
      simp only at h0 h1 h2 h3 h4
      have hbr : b < wr.heap.size := Nat.lt_of_lt_of_le hb hbl.size
      have c1 := fun v => job_open_any x0 x1 x2 x3 x4 v
      cases hp : openJ ⟨x0, x1, x2, x3, x4⟩ with
      | false =>
        rw [hp] at c1
        have hy2 := Lib.hid (show y = (l.take (k + 1)).filter openJ ∧ y.length ≤ k + 1 by rw [hTK.out, List.filter_append, List.filter_cons, hp]; simp only [Bool.false_eq_true, if_false, List.filter_nil, List.append_nil]; exact ⟨hy.out.1, Nat.le_succ_of_le hy.out.2⟩)
        have C1 := Lib.hid c1
        clear c1 hp hy hTK
        go_wp2_with fail
        refine calls_named ?_
        rintro v hv
        have bv : Below wr.heap.size wr v := by rw [hv]; exact (Below.refl _ _).alloc (Nat.le_refl _) _
        clear hv
        refine (C1.out v).mono ?_
        rintro e w1 ⟨rfl, b1⟩
        have R1 := (R.below bv).below b1
        have bb := bthen bv b1
        go_wp2
        exact ⟨⟨k + 1, g, c, y, by omega, by go_num, rfl, R1, hy2, bthen hbl bb⟩, by simp [intOf]; omega⟩
      | true =>
        rw [hp] at c1
        have hy2 := Lib.hid (show y ++ [⟨x0, x1, x2, x3, x4⟩] = (l.take (k + 1)).filter openJ ∧ (y ++ [(⟨x0, x1, x2, x3, x4⟩ : Jb)]).length ≤ k + 1 by rw [hTK.out, List.filter_append, List.filter_cons, hp]; simp only [if_true, List.filter_nil]; exact ⟨by rw [hy.out.1], by have := hy.out.2; simp; omega⟩)
        have hyk := hy.out.2
        have C1 := Lib.hid c1
        clear c1 hp hy hTK
        go_wp2_with fail
        refine calls_named ?_
        rintro v hv
        have bv : Below wr.heap.size wr v := by rw [hv]; exact (Below.refl _ _).alloc (Nat.le_refl _) _
        have K0 : Blk v wr.heap.size 68 #[.int .i64 x0, .int .i64 x1, .int .i64 x2, .int .i64 x3, .int .i64 x4] := by rw [hv]; exact Blk.new_at _ _ _ _ rfl
        clear hv
        refine (C1.out v).mono ?_
        rintro e w1 ⟨rfl, b1⟩
        have R1 := (R.below bv).below b1
        have bb := bthen bv b1
        have hbl1 := bthen hbl bb
        have K1 := K0.below b1
        have hz1 := hbl1.size
        have k0 := K1.cell 0
        have k1 := K1.cell 1
        have k2 := K1.cell 2
        have k3 := K1.cell 3
        have k4 := K1.cell 4
        have kl := K1.lt
        clear h0 h1 h2 h3 h4 K0 b1 bv bb
        go_wp2_with (at_builtin; refine wpList_append_row rfl _ _ 51 rfl 68 (.agg #[.int .i64 0, .int .i64 0, .int .i64 0, .int .i64 0, .int .i64 0]) 5 40 Try.underlying51 info_Job (by first | kernel_rfl | simp [Value.cells]) (by decide) w.heap.size (some ⟨g, 0, none⟩) y.length c (JB y) rfl (World.ownsRow.alloc R1 _) ⟨w1.heap.size, 0, none⟩ 1 1 [x0, x1, x2, x3, x4] rfl rfl (cell_five_at _ _ _ _ _ _ _ _ rfl) (by unfold maxLen; omega) (by omega) (by simp; omega) ?_; intro A5 c5 w5 R5 B5; obtain ⟨g5, cs5, rfl, _⟩ := R5.blk (Nat.succ_pos _))
        have hB := btr ((Below.refl w.heap.size w1).alloc hz1 (.cells #[.int .i64 x0, .int .i64 x1, .int .i64 x2, .int .i64 x3, .int .i64 x4] 68)) B5
        have e5 : JB y ++ [x0, x1, x2, x3, x4] = JB (y ++ [⟨x0, x1, x2, x3, x4⟩]) := by rw [JB_append]; rfl
        rw [e5] at R5
        have e6 : y.length + 1 = (y ++ [(⟨x0, x1, x2, x3, x4⟩ : Jb)]).length := by simp
        rw [e6] at R5 ⊢
        exact ⟨⟨k + 1, g5, c5, _, by omega, by go_num, rfl, R5, hy2, btr hbl1 hB⟩, by simp [intOf]; omega⟩
    · have hkn : k = n := by omega
      subst hkn
      have hlt' : ¬ (k : Int) < (k : Int) := by omega
      go_wp2
      go_ret
      have e1 : y = l.filter openJ := by rw [hy.out.1, List.take_of_length_le (Nat.le_of_eq hL.out)]
      subst e1
      exact ⟨g, c, rfl, R, hbl⟩
theorem job_closed_any (x0 x1 x2 x3 x4 : Int) (w : World) : Calls Try.prog 115 #[.agg #[.int .i64 x0, .int .i64 x1, .int .i64 x2, .int .i64 x3, .int .i64 x4]] w fun e w' => e = .returned (.bool (firedJ ⟨x0, x1, x2, x3, x4⟩)) ∧ Below w.heap.size w w' := by
  go_enter Try.func115, Try.ntmps115
  go_wp2
  go_ret
  exact ⟨ret_bool (by unfold firedJ openJ; rw [← beqD]; rfl), by (repeat' (first | (with_reducible exact Below.refl _ _) | (with_reducible assumption) | (with_reducible refine Below.alloc ?_ ?_ _) | (with_reducible refine Below.drew ?_) | (with_reducible refine Below.setCell ?_ ?_ _) | (with_reducible refine bstep (by assumption) ?_ ?_) | (with_reducible exact Nat.le_refl _) | omega | (simp [*]; done) | (simp [*]; omega)))⟩
set_option maxRecDepth 100000 in
set_option maxHeartbeats 4000000 in
theorem chosen_closed_any (A : Option Addr) (n cap : Nat) (l : List Jb) (w : World) (hS : Sl w 5 A n (JB l)) (hl : l.length = n) (hn : n ≤ 1000) :
    Calls Try.prog 117 #[.slice A n cap, .func (.func 115) #[] #[]] w fun e w' => ∃ g c, e = .returned (.slice (some ⟨g, 0, none⟩) (l.filter firedJ).length c) ∧ Row w' w.heap.size 68 5 (some ⟨g, 0, none⟩) (l.filter firedJ).length c (JB (l.filter firedJ)) ∧ Below w.heap.size w w' := by
  have HS := Lib.hid hS
  have hL := Lib.hid hl
  clear hS hl
  go_enter Try.func117, Try.ntmps117
  go_wp2
  go_loopw [5, 11] (fun o iv wr => ∃ (k : Nat) (g c : Nat) (y : List Jb), k ≤ n ∧ iv = .int .i64 (k : Nat) ∧ o = .slice (some ⟨g, 0, none⟩) y.length c ∧ Row wr w.heap.size 68 5 (some ⟨g, 0, none⟩) y.length c (JB y) ∧ Hid (y = (l.take k).filter firedJ ∧ y.length ≤ k) ∧ Below w.heap.size w wr) (fun _ iv _ => n - (intOf iv).toNat)
  case atStart => exact ⟨0, w.heap.size, 0, [], Nat.zero_le _, rfl, rfl, row0p (Blk.new w _ _) (Nat.le_refl _), Lib.hid ⟨rfl, Nat.le_refl _⟩, (Below.refl _ _).alloc (Nat.le_refl _) _⟩
  case round =>
    obtain ⟨k, g, c, y, hk, rfl, rfl, R, hy, hbl⟩ := hrel
    have hz := hbl.size
    by_cases hlt : k < n
    · have hlt' : (k : Int) < (n : Int) := by omega
      obtain ⟨b, off, rfl, hb, hcell⟩ := sl_jobs HS.out (by omega)
      obtain ⟨h0, h1, h2, h3, h4⟩ := hcell k hlt
      clear hcell
      rw [← hbl.cell (by exact hb)] at h0 h1 h2 h3 h4
      have htk : l.take (k + 1) = l.take k ++ [l.getD k default] := take_succ_getD (by rw [hL.out]; exact hlt)
      have hTK := Lib.hid htk
      clear htk
      generalize l.getD k default = pk at h0 h1 h2 h3 h4 hTK
      obtain ⟨x0, x1, x2, x3, x4⟩ := pk
      simp only at h0 h1 h2 h3 h4
      have hbr : b < wr.heap.size := Nat.lt_of_lt_of_le hb hbl.size
      have c1 := fun v => job_closed_any x0 x1 x2 x3 x4 v
      cases hp : firedJ ⟨x0, x1, x2, x3, x4⟩ with
      | false =>
        rw [hp] at c1
        have hy2 := Lib.hid (show y = (l.take (k + 1)).filter firedJ ∧ y.length ≤ k + 1 by rw [hTK.out, List.filter_append, List.filter_cons, hp]; simp only [Bool.false_eq_true, if_false, List.filter_nil, List.append_nil]; exact ⟨hy.out.1, Nat.le_succ_of_le hy.out.2⟩)
        have C1 := Lib.hid c1
        clear c1 hp hy hTK
        go_wp2_with fail
        refine calls_named ?_
        rintro v hv
        have bv : Below wr.heap.size wr v := by rw [hv]; exact (Below.refl _ _).alloc (Nat.le_refl _) _
        clear hv
        refine (C1.out v).mono ?_
        rintro e w1 ⟨rfl, b1⟩
        have R1 := (R.below bv).below b1
        have bb := bthen bv b1
        go_wp2
        exact ⟨⟨k + 1, g, c, y, by omega, by go_num, rfl, R1, hy2, bthen hbl bb⟩, by simp [intOf]; omega⟩
      | true =>
        rw [hp] at c1
        have hy2 := Lib.hid (show y ++ [⟨x0, x1, x2, x3, x4⟩] = (l.take (k + 1)).filter firedJ ∧ (y ++ [(⟨x0, x1, x2, x3, x4⟩ : Jb)]).length ≤ k + 1 by rw [hTK.out, List.filter_append, List.filter_cons, hp]; simp only [if_true, List.filter_nil]; exact ⟨by rw [hy.out.1], by have := hy.out.2; simp; omega⟩)
        have hyk := hy.out.2
        have C1 := Lib.hid c1
        clear c1 hp hy hTK
        go_wp2_with fail
        refine calls_named ?_
        rintro v hv
        have bv : Below wr.heap.size wr v := by rw [hv]; exact (Below.refl _ _).alloc (Nat.le_refl _) _
        have K0 : Blk v wr.heap.size 68 #[.int .i64 x0, .int .i64 x1, .int .i64 x2, .int .i64 x3, .int .i64 x4] := by rw [hv]; exact Blk.new_at _ _ _ _ rfl
        clear hv
        refine (C1.out v).mono ?_
        rintro e w1 ⟨rfl, b1⟩
        have R1 := (R.below bv).below b1
        have bb := bthen bv b1
        have hbl1 := bthen hbl bb
        have K1 := K0.below b1
        have hz1 := hbl1.size
        have k0 := K1.cell 0
        have k1 := K1.cell 1
        have k2 := K1.cell 2
        have k3 := K1.cell 3
        have k4 := K1.cell 4
        have kl := K1.lt
        clear h0 h1 h2 h3 h4 K0 b1 bv bb
        go_wp2_with (at_builtin; refine wpList_append_row rfl _ _ 51 rfl 68 (.agg #[.int .i64 0, .int .i64 0, .int .i64 0, .int .i64 0, .int .i64 0]) 5 40 Try.underlying51 info_Job (by first | kernel_rfl | simp [Value.cells]) (by decide) w.heap.size (some ⟨g, 0, none⟩) y.length c (JB y) rfl (World.ownsRow.alloc R1 _) ⟨w1.heap.size, 0, none⟩ 1 1 [x0, x1, x2, x3, x4] rfl rfl (cell_five_at _ _ _ _ _ _ _ _ rfl) (by unfold maxLen; omega) (by omega) (by simp; omega) ?_; intro A5 c5 w5 R5 B5; obtain ⟨g5, cs5, rfl, _⟩ := R5.blk (Nat.succ_pos _))
        have hB := btr ((Below.refl w.heap.size w1).alloc hz1 (.cells #[.int .i64 x0, .int .i64 x1, .int .i64 x2, .int .i64 x3, .int .i64 x4] 68)) B5
        have e5 : JB y ++ [x0, x1, x2, x3, x4] = JB (y ++ [⟨x0, x1, x2, x3, x4⟩]) := by rw [JB_append]; rfl
        rw [e5] at R5
        have e6 : y.length + 1 = (y ++ [(⟨x0, x1, x2, x3, x4⟩ : Jb)]).length := by simp
        rw [e6] at R5 ⊢
        exact ⟨⟨k + 1, g5, c5, _, by omega, by go_num, rfl, R5, hy2, btr hbl1 hB⟩, by simp [intOf]; omega⟩
    · have hkn : k = n := by omega
      subst hkn
      have hlt' : ¬ (k : Int) < (k : Int) := by omega
      go_wp2
      go_ret
      have e1 : y = l.filter firedJ := by rw [hy.out.1, List.take_of_length_le (Nat.le_of_eq hL.out)]
      subst e1
      exact ⟨g, c, rfl, R, hbl⟩
end Go.Proofs.Ytgpllffiahccjaa

/- Wants: the comparison of two as one run equation; slices.Equal over them. -/
import Derived.Test.YtbcpcddmekoaeaaC1
import Derived.Test.YtbcpcddmekoaeaaBk
import Derived.Laws.StructEq
namespace Go.Proofs.Ytbcpcddmekoaeaa
set_option linter.unusedSimpArgs false
set_option linter.unusedVariables false
attribute [local go_sem] n_lt2 n_lt3 n_lt4 n_le2 n_le3
open Go.RowKit
set_option maxRecDepth 20000 in
theorem want_eql (x0 x1 x2 x3 x4 x5 x6 y0 y1 y2 y3 y4 y5 y6 : Int) (w : World) :
    (binOp .eql 80 (.agg #[.int .i64 x0, .int .i64 x1, .int .i64 x2, .int .i64 x3, .int .i64 x4, .int .i64 x5, .int .i64 x6]) (.agg #[.int .i64 y0, .int .i64 y1, .int .i64 y2, .int .i64 y3, .int .i64 y4, .int .i64 y5, .int .i64 y6])).run Try.prog w = .ok (.bool (eqL [x0, x1, x2, x3, x4, x5, x6] [y0, y1, y2, y3, y4, y5, y6])) w := by
  have hS : Try.prog.underlying 80 = some (.struct (Try.prog.fieldsOf 80)) := by kernel_rfl
  have hp : Try.prog.stoodInHeld 80 = false := by kernel_rfl
  have hp2 : Try.prog.stoodInHeld 78 = false := by kernel_rfl
  rw [run_eql_struct, show (10000 : Nat) = 9999 + 1 from rfl, run_equalIn_agg w 9999 80 _ _ hS hp]
  simp only [Program.fieldsOf, Try.underlying80]
  clear hS hp
  have hA := Try.isAgg78
  have hZ := Try.sizeOf78
  have hU := Try.underlying78
  go_simp
  clear hp2 hA hZ hU
  by_cases h : [x0, x1, x2, x3, x4, x5, x6] = [y0, y1, y2, y3, y4, y5, y6]
  · rw [h, eqL_self]
    simp only [List.cons.injEq, and_true] at h
    obtain ⟨rfl, rfl, rfl, rfl, rfl, rfl, rfl⟩ := h
    simp
  · rw [eqL_ne h]
    simp only [List.cons.injEq, and_true, not_and] at h
    repeat' split
    all_goals first | rfl | (exfalso; simp_all; done)
set_option maxRecDepth 20000 in
theorem want_neq (x0 x1 x2 x3 x4 x5 x6 y0 y1 y2 y3 y4 y5 y6 : Int) (w : World) :
    (binOp .neq 80 (.agg #[.int .i64 x0, .int .i64 x1, .int .i64 x2, .int .i64 x3, .int .i64 x4, .int .i64 x5, .int .i64 x6]) (.agg #[.int .i64 y0, .int .i64 y1, .int .i64 y2, .int .i64 y3, .int .i64 y4, .int .i64 y5, .int .i64 y6])).run Try.prog w = .ok (.bool (!eqL [x0, x1, x2, x3, x4, x5, x6] [y0, y1, y2, y3, y4, y5, y6])) w := by
  have hS : Try.prog.underlying 80 = some (.struct (Try.prog.fieldsOf 80)) := by kernel_rfl
  have hp : Try.prog.stoodInHeld 80 = false := by kernel_rfl
  have hp2 : Try.prog.stoodInHeld 78 = false := by kernel_rfl
  rw [run_neq_struct, show (10000 : Nat) = 9999 + 1 from rfl, run_equalIn_agg w 9999 80 _ _ hS hp]
  simp only [Program.fieldsOf, Try.underlying80]
  clear hS hp
  have hA := Try.isAgg78
  have hZ := Try.sizeOf78
  have hU := Try.underlying78
  go_simp
  clear hp2 hA hZ hU
  by_cases h : [x0, x1, x2, x3, x4, x5, x6] = [y0, y1, y2, y3, y4, y5, y6]
  · rw [h, eqL_self]
    simp only [List.cons.injEq, and_true] at h
    obtain ⟨rfl, rfl, rfl, rfl, rfl, rfl, rfl⟩ := h
    simp
  · rw [eqL_ne h]
    simp only [List.cons.injEq, and_true, not_and] at h
    repeat' split
    all_goals first | rfl | (exfalso; simp_all; done)
attribute [local go_sem] Ext.cell Ext.frozen
theorem list7 {zs ys : List Int} {k : Nat} {x0 x1 x2 x3 x4 x5 x6 y0 y1 y2 y3 y4 y5 y6 : Int} (hx : zs.getD (k * 7) 0 = x0 ∧ zs.getD (k * 7 + 1) 0 = x1 ∧ zs.getD (k * 7 + 2) 0 = x2 ∧ zs.getD (k * 7 + 3) 0 = x3 ∧ zs.getD (k * 7 + 4) 0 = x4 ∧ zs.getD (k * 7 + 5) 0 = x5 ∧ zs.getD (k * 7 + 6) 0 = x6) (hy : ys.getD (k * 7) 0 = y0 ∧ ys.getD (k * 7 + 1) 0 = y1 ∧ ys.getD (k * 7 + 2) 0 = y2 ∧ ys.getD (k * 7 + 3) 0 = y3 ∧ ys.getD (k * 7 + 4) 0 = y4 ∧ ys.getD (k * 7 + 5) 0 = y5 ∧ ys.getD (k * 7 + 6) 0 = y6) (h : eqL [x0, x1, x2, x3, x4, x5, x6] [y0, y1, y2, y3, y4, y5, y6] = true) : ∀ j, k * 7 ≤ j → j < k * 7 + 7 → zs.getD j 0 = ys.getD j 0 := by
  have he := eqL_true h
  simp only [List.cons.injEq, and_true] at he
  obtain ⟨e0, e1, e2, e3, e4, e5, e6⟩ := he
  obtain ⟨a0, a1, a2, a3, a4, a5, a6⟩ := hx
  obtain ⟨b0, b1, b2, b3, b4, b5, b6⟩ := hy
  intro j h1 h2
  rcases (by omega : j = k * 7 ∨ j = k * 7 + 1 ∨ j = k * 7 + 2 ∨ j = k * 7 + 3 ∨ j = k * 7 + 4 ∨ j = k * 7 + 5 ∨ j = k * 7 + 6) with r | r | r | r | r | r | r <;> subst r
  · rw [a0, b0, e0]
  · rw [a1, b1, e1]
  · rw [a2, b2, e2]
  · rw [a3, b3, e3]
  · rw [a4, b4, e4]
  · rw [a5, b5, e5]
  · rw [a6, b6, e6]
theorem list7_ne {zs ys : List Int} {k : Nat} {x0 x1 x2 x3 x4 x5 x6 y0 y1 y2 y3 y4 y5 y6 : Int} (hx : zs.getD (k * 7) 0 = x0 ∧ zs.getD (k * 7 + 1) 0 = x1 ∧ zs.getD (k * 7 + 2) 0 = x2 ∧ zs.getD (k * 7 + 3) 0 = x3 ∧ zs.getD (k * 7 + 4) 0 = x4 ∧ zs.getD (k * 7 + 5) 0 = x5 ∧ zs.getD (k * 7 + 6) 0 = x6) (hy : ys.getD (k * 7) 0 = y0 ∧ ys.getD (k * 7 + 1) 0 = y1 ∧ ys.getD (k * 7 + 2) 0 = y2 ∧ ys.getD (k * 7 + 3) 0 = y3 ∧ ys.getD (k * 7 + 4) 0 = y4 ∧ ys.getD (k * 7 + 5) 0 = y5 ∧ ys.getD (k * 7 + 6) 0 = y6) (h : eqL [x0, x1, x2, x3, x4, x5, x6] [y0, y1, y2, y3, y4, y5, y6] = false) : zs ≠ ys := by
  rintro rfl
  obtain ⟨a0, a1, a2, a3, a4, a5, a6⟩ := hx
  obtain ⟨b0, b1, b2, b3, b4, b5, b6⟩ := hy
  have : [x0, x1, x2, x3, x4, x5, x6] = [y0, y1, y2, y3, y4, y5, y6] := by rw [← a0, ← a1, ← a2, ← a3, ← a4, ← a5, ← a6, b0, b1, b2, b3, b4, b5, b6]
  rw [this, eqL_self] at h
  exact absurd h (by decide)
set_option maxRecDepth 20000 in
set_option maxHeartbeats 2000000 in
theorem equalWantS_any (A B : Option Addr) (n m cap cap' : Nat) (zs ys : List Int) (w : World) (hS : Sl w 7 A n zs) (hT : Sl w 7 B m ys) (hn : n ≤ maxLen) (hm : m ≤ maxLen) :
    Calls Try.prog 58 #[.slice A n cap, .slice B m cap'] w fun e w' => e = .returned (.bool (eqL zs ys)) ∧ Below w.heap.size w w' := by
  unfold maxLen at hn hm
  by_cases hnm : n = m
  · subst hnm
    have HS := Lib.hid hS
    have HT := Lib.hid hT
    clear hS hT
    go_enter Try.func58, Try.ntmps58
    go_wp2
    go_loopw [13] (fun i wr => ∃ (k : Nat), k ≤ n ∧ i = .int .i64 k ∧ Below w.heap.size w wr ∧ Hid (∀ j, j < k * 7 → zs.getD j 0 = ys.getD j 0)) (fun i _ => n - (intOf i).toNat)
    case atStart => exact ⟨0, Nat.zero_le _, rfl, Below.refl _ _, fun j hj => absurd hj (by omega)⟩
    case round =>
      obtain ⟨k, hk, rfl, hbl, hall⟩ := hrel
      by_cases hlt : k < n
      · obtain ⟨b, off, rfl, hb, hcell⟩ := HS.out.at_ (by omega)
        obtain ⟨b', off', rfl, hb', hcell'⟩ := HT.out.at_ (by omega)
        have h0 := hcell (k * 7) (by omega)
        have h1 := hcell (k * 7 + 1) (by omega)
        have h2 := hcell (k * 7 + 2) (by omega)
        have h3 := hcell (k * 7 + 3) (by omega)
        have h4 := hcell (k * 7 + 4) (by omega)
        have h5 := hcell (k * 7 + 5) (by omega)
        have h6 := hcell (k * 7 + 6) (by omega)
        have p0 := hcell' (k * 7) (by omega)
        have p1 := hcell' (k * 7 + 1) (by omega)
        have p2 := hcell' (k * 7 + 2) (by omega)
        have p3 := hcell' (k * 7 + 3) (by omega)
        have p4 := hcell' (k * 7 + 4) (by omega)
        have p5 := hcell' (k * 7 + 5) (by omega)
        have p6 := hcell' (k * 7 + 6) (by omega)
        rw [← hbl.cell (by exact hb)] at h0 h1 h2 h3 h4 h5 h6
        rw [← hbl.cell (by exact hb')] at p0 p1 p2 p3 p4 p5 p6
        simp only [← Nat.add_assoc] at h0 h1 h2 h3 h4 h5 h6 p0 p1 p2 p3 p4 p5 p6
        clear hcell hcell'
        generalize hx0 : zs.getD (k * 7) 0 = x0 at h0
        generalize hx1 : zs.getD (k * 7 + 1) 0 = x1 at h1
        generalize hx2 : zs.getD (k * 7 + 2) 0 = x2 at h2
        generalize hx3 : zs.getD (k * 7 + 3) 0 = x3 at h3
        generalize hx4 : zs.getD (k * 7 + 4) 0 = x4 at h4
        generalize hx5 : zs.getD (k * 7 + 5) 0 = x5 at h5
        generalize hx6 : zs.getD (k * 7 + 6) 0 = x6 at h6
        generalize hy0 : ys.getD (k * 7) 0 = y0 at p0
        generalize hy1 : ys.getD (k * 7 + 1) 0 = y1 at p1
        generalize hy2 : ys.getD (k * 7 + 2) 0 = y2 at p2
        generalize hy3 : ys.getD (k * 7 + 3) 0 = y3 at p3
        generalize hy4 : ys.getD (k * 7 + 4) 0 = y4 at p4
        generalize hy5 : ys.getD (k * 7 + 5) 0 = y5 at p5
        generalize hy6 : ys.getD (k * 7 + 6) 0 = y6 at p6
        have HX := Lib.hid (show zs.getD (k * 7) 0 = x0 ∧ zs.getD (k * 7 + 1) 0 = x1 ∧ zs.getD (k * 7 + 2) 0 = x2 ∧ zs.getD (k * 7 + 3) 0 = x3 ∧ zs.getD (k * 7 + 4) 0 = x4 ∧ zs.getD (k * 7 + 5) 0 = x5 ∧ zs.getD (k * 7 + 6) 0 = x6 from ⟨hx0, hx1, hx2, hx3, hx4, hx5, hx6⟩)
        have HY := Lib.hid (show ys.getD (k * 7) 0 = y0 ∧ ys.getD (k * 7 + 1) 0 = y1 ∧ ys.getD (k * 7 + 2) 0 = y2 ∧ ys.getD (k * 7 + 3) 0 = y3 ∧ ys.getD (k * 7 + 4) 0 = y4 ∧ ys.getD (k * 7 + 5) 0 = y5 ∧ ys.getD (k * 7 + 6) 0 = y6 from ⟨hy0, hy1, hy2, hy3, hy4, hy5, hy6⟩)
        clear hx0 hy0 hx1 hy1 hx2 hy2 hx3 hy3 hx4 hy4 hx5 hy5 hx6 hy6
        have hbr : b < wr.heap.size := Nat.lt_of_lt_of_le hb hbl.size
        have hbr' : b' < wr.heap.size := Nat.lt_of_lt_of_le hb' hbl.size
        have hk2 : (k : Int) < (n : Int) := by omega
        have heq := fun w0 => want_eql x0 x1 x2 x3 x4 x5 x6 y0 y1 y2 y3 y4 y5 y6 w0
        have hne := fun w0 => want_neq x0 x1 x2 x3 x4 x5 x6 y0 y1 y2 y3 y4 y5 y6 w0
        cases hq : eqL [x0, x1, x2, x3, x4, x5, x6] [y0, y1, y2, y3, y4, y5, y6] with
        | false =>
          rw [hq] at heq hne
          have HQ := Lib.hid hq
          clear hq
          simp only [Bool.not_false] at hne
          go_wp2
          ((refine wp_region_ext (by kernel_rfl) (by kernel_rfl) ?_); (repeat (any_goals (first | go_big_quiet_step (fail) | (refine wpQuiet_step (fun K hK => ?_); go_simp; split <;> (refine hK _ ?_; clear hK K)) | quiet_step (fail)))); (all_goals (refine wpQuiet_nil ?_; rintro _ ⟨z, rfl⟩; have hb' := z.h; generalize z.w = w1 at hb' ⊢; clear z; (first | (have hb2 := bstep hb' hb hb.size; clear hb' hcb hfb hz1 hz2 hz3 hz4 hb; have hb := hb2; clear hb2) | (have hb := hb'; clear hb')); obtain ⟨hcb, hfb, hz1, hz2, hz3, hz4⟩ := bcell hb; (try simp only [World.size_alloc, World.size_setCell, World.size_drew, Nat.lt_add_one_iff, Nat.add_assoc, Nat.reduceAdd] at hz1 hz2 hz3 hz4))))
          go_wp2
          go_ret
          exact ⟨ret_bool (eqL_ne (list7_ne HX.out HY.out HQ.out)).symm, bstep hb hbl hbl.size⟩
        | true =>
          rw [hq] at heq hne
          have HQ := Lib.hid hq
          clear hq
          simp only [Bool.not_true] at hne
          go_wp2
          ((refine wp_region_ext (by kernel_rfl) (by kernel_rfl) ?_); (repeat (any_goals (first | go_big_quiet_step (fail) | (refine wpQuiet_step (fun K hK => ?_); go_simp; split <;> (refine hK _ ?_; clear hK K)) | quiet_step (fail)))); (all_goals (refine wpQuiet_nil ?_; rintro _ ⟨z, rfl⟩; have hb' := z.h; generalize z.w = w1 at hb' ⊢; clear z; (first | (have hb2 := bstep hb' hb hb.size; clear hb' hcb hfb hz1 hz2 hz3 hz4 hb; have hb := hb2; clear hb2) | (have hb := hb'; clear hb')); obtain ⟨hcb, hfb, hz1, hz2, hz3, hz4⟩ := bcell hb; (try simp only [World.size_alloc, World.size_setCell, World.size_drew, Nat.lt_add_one_iff, Nat.add_assoc, Nat.reduceAdd] at hz1 hz2 hz3 hz4))))
          go_wp2
          refine ⟨⟨k + 1, by omega, by go_num, bstep hb hbl hbl.size, ?_⟩, by simp [intOf]; omega⟩
          intro j hj
          by_cases h : j < k * 7
          · exact hall.out j h
          · exact list7 HX.out HY.out HQ.out j (by omega) (by omega)
      · have hkn : k = n := by omega
        subst hkn
        go_wp2
        go_ret
        have hzy : zs = ys := list_ext_getD (by rw [HS.out.len, HT.out.len]) (fun j hj => hall.out j (by rw [HS.out.len] at hj; omega))
        exact ⟨ret_bool (by rw [hzy]; exact (eqL_self _).symm), hbl⟩
  · have hne : ¬ (n : Int) = (m : Int) := by omega
    have hz : eqL zs ys = false := by
      refine eqL_ne ?_
      rintro rfl
      have h1 := hS.len
      have h2 := hT.len
      omega
    rw [hz]
    clear hz hS hT
    go_enter Try.func58, Try.ntmps58
    go_wp2
    go_ret
    exact ⟨rfl, Below.refl _ _⟩
end Go.Proofs.Ytbcpcddmekoaeaa

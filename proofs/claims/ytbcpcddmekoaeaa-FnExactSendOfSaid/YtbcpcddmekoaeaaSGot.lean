/- The law's own helpers on slices of Got: sz, to, eq, mark, held. -/
import Derived.Test.YtbcpcddmekoaeaaA1
import Derived.Test.YtbcpcddmekoaeaaMem
namespace Go.Proofs.Ytbcpcddmekoaeaa
set_option linter.unusedSimpArgs false
set_option linter.unusedVariables false
attribute [local go_sem] n_lt2 n_lt3 n_lt4 n_le2 n_le3
open Go.RowKit
attribute [local go_sem] Ext.cell Ext.frozen
set_option maxRecDepth 100000 in
set_option maxHeartbeats 400000 in
theorem toGot_any (a0 a1 a2 a3 : Int) (w : World) :
    Calls Try.prog 94 #[.agg #[.int .i64 a0, .int .i64 a1, .int .i64 a2, .int .i64 a3]] w fun e' w' => e' = .returned (.agg #[.int .i64 a0, .int .i64 a1, .int .i64 a2, .int .i64 a3]) ∧ Below w.heap.size w w' := by
  go_enter Try.func94, Try.ntmps94
  go_wp2
  refine bodyPost_ret (v := .agg #[.int .i64 a0, .int .i64 a1, .int .i64 a2, .int .i64 a3]) (by simp [results, Try.results94, go_sem]) rfl ⟨rfl, ?_⟩
  (repeat' (first | (with_reducible exact Below.refl _ _) | (with_reducible assumption) | (with_reducible refine Below.alloc ?_ ?_ _) | (with_reducible refine Below.drew ?_) | (with_reducible refine Below.setCell ?_ ?_ _) | (with_reducible refine bstep (by assumption) ?_ ?_) | (with_reducible exact Nat.le_refl _) | omega | (simp [*]; done) | (simp [*]; omega)))
set_option maxHeartbeats 1000000 in
theorem eqGot_any (a0 a1 a2 a3 b0 b1 b2 b3 : Int) (w : World) :
    Calls Try.prog 95 #[.agg #[.int .i64 a0, .int .i64 a1, .int .i64 a2, .int .i64 a3], .agg #[.int .i64 b0, .int .i64 b1, .int .i64 b2, .int .i64 b3]] w fun e' w' => e' = .returned (.bool (eqL [a0, a1, a2, a3] [b0, b1, b2, b3])) ∧ Below w.heap.size w w' := by
  go_enter Try.func95, Try.ntmps95
  go_wp2
  all_goals (go_ret; exact ⟨ret_bool (by unfold eqL; (first | rfl | (simp [*]; done) | (subst_vars; simp [*]; done) | (simp_all; done))), by (repeat' (first | (with_reducible exact Below.refl _ _) | (with_reducible assumption) | (with_reducible refine Below.alloc ?_ ?_ _) | (with_reducible refine Below.drew ?_) | (with_reducible refine Below.setCell ?_ ?_ _) | (with_reducible refine bstep (by assumption) ?_ ?_) | (with_reducible exact Nat.le_refl _) | omega | (simp [*]; done) | (simp [*]; omega)))⟩)

theorem szGotS_yes (A : Option Addr) (n cap : Nat) (left : Int) (w : World) (hn : (n : Int) ≤ left) (hl : left ≤ 1048576) :
    Calls Try.prog 56 #[.slice A n cap, .int .i64 left] w fun e w' => e = .returned (.int .i64 (left - n)) ∧ w = w' := by
  go_enter Try.func56, Try.ntmps56
  go_wp2
  go_ret
  exact ⟨rfl, rfl⟩
theorem szGotS_no (A : Option Addr) (n cap : Nat) (left : Int) (w : World) (hn : left < (n : Int)) (h0 : 0 ≤ left) (hl : left ≤ 1048576) (hm : n ≤ maxLen) :
    Calls Try.prog 56 #[.slice A n cap, .int .i64 left] w fun e w' => e = .returned (.int .i64 (-1)) ∧ w = w' := by
  unfold maxLen at hm
  go_enter Try.func56, Try.ntmps56
  go_wp2
  go_ret
  exact ⟨rfl, rfl⟩

theorem info_Got : (Try.prog.info? 72).map (fun i => (i.zero, i.size, i.bytes)) = some (some (.agg #[.int .i64 0, .int .i64 0, .int .i64 0, .int .i64 0]), 4, 32) := by kernel_rfl

set_option maxHeartbeats 1600000 in
theorem toGotS_any (A : Option Addr) (n cap : Nat) (zs : List Int) (w : World) (hS : Sl w 4 A n zs) (hn : n ≤ 1048576) :
    Calls Try.prog 57 #[.slice A n cap] w (RetRow w 72 4 n zs) := by
  have hmk := fun W => make_flat (P := Try.prog) 29 72 (.agg #[.int .i64 0, .int .i64 0, .int .i64 0, .int .i64 0]) 4 32 Try.underlying29 info_Got (by decide) n hn W
  have HS := Lib.hid hS
  clear hS
  go_enter Try.func57, Try.ntmps57
  go_wp2
  clear hmk
  go_loopw [4] (fun i wr => ∃ (k : Nat) (cs : Array Value), k ≤ n ∧ i = .int .i64 k ∧ Below w.heap.size w wr ∧ Blk wr w.heap.size 72 cs ∧ Hid (cs.size = n * 4) ∧ Hid (∀ j, j < k * 4 → cs[j]? = some (.int .i64 (zs.getD j 0)))) (fun i _ => n - (intOf i).toNat)
  case atStart => exact ⟨0, _, Nat.zero_le _, rfl, (Below.refl _ _).alloc (Nat.le_refl _) _, Blk.new _ _ _, by simp [size_madeCells, Hid], fun j hj => absurd hj (by omega)⟩
  case round =>
    obtain ⟨k, cs, hk, rfl, hbl, hblk, hcs, hall⟩ := hrel
    by_cases hlt : k < n
    · obtain ⟨b, off, rfl, hb, hcell⟩ := HS.out.at_ (by omega)
      have h0 := hcell (k * 4) (by omega)
      have h1 := hcell (k * 4 + 1) (by omega)
      have h2 := hcell (k * 4 + 2) (by omega)
      have h3 := hcell (k * 4 + 3) (by omega)
      rw [← hbl.cell (by exact hb)] at h0 h1 h2 h3
      simp only [← Nat.add_assoc] at h0 h1 h2 h3
      clear hcell
      generalize hx0 : zs.getD (k * 4) 0 = x0 at h0
      generalize hx1 : zs.getD (k * 4 + 1) 0 = x1 at h1
      generalize hx2 : zs.getD (k * 4 + 2) 0 = x2 at h2
      generalize hx3 : zs.getD (k * 4 + 3) 0 = x3 at h3
      have HX := Lib.hid (And.intro hx0 (And.intro hx1 (And.intro hx2 hx3)))
      clear hx0 hx1 hx2 hx3
      have hg := hblk.lt
      have hbr : b < wr.heap.size := Nat.lt_of_lt_of_le hb hbl.size
      obtain ⟨c0, g0⟩ := hblk.has (i := k * 4) (by have := hcs.out; omega)
      obtain ⟨c1, g1⟩ := hblk.has (i := k * 4 + 1) (by have := hcs.out; omega)
      obtain ⟨c2, g2⟩ := hblk.has (i := k * 4 + 2) (by have := hcs.out; omega)
      obtain ⟨c3, g3⟩ := hblk.has (i := k * 4 + 3) (by have := hcs.out; omega)
      have f0 := hblk.frozen (k * 4)
      have f1 := hblk.frozen (k * 4 + 1)
      have f2 := hblk.frozen (k * 4 + 2)
      have f3 := hblk.frozen (k * 4 + 3)
      go_wp2_with ((go_at_call 94; refine (toGot_any _ _ _ _ _).mono ?_; rintro e w1 ⟨rfl, hb'⟩; (first | (have hb2 := bstep hb' hb hb.size; clear hb' hcb hfb hz1 hz2 hz3 hz4 hb; have hb := hb2; clear hb2) | (have hb := hb'; clear hb')); obtain ⟨hcb, hfb, hz1, hz2, hz3, hz4⟩ := bcell hb; (try simp only [World.size_alloc, World.size_setCell, World.size_drew, Nat.lt_add_one_iff, Nat.add_assoc, Nat.reduceAdd] at hz1 hz2 hz3 hz4)))
      refine ⟨⟨k + 1, _, by omega, by go_num, (((((bstep hb hbl hbl.size).setCell (by simp) _).setCell (by simp) _).setCell (by simp) _).setCell (by simp) _), (((((hblk.below hb).set_ _ _).set_ _ _).set_ _ _).set_ _ _), ?_, ?_⟩, by simp [intOf]; omega⟩
      · show Array.size _ = _
        simp only [Array.size_setIfInBounds]
        exact hcs.out
      · intro j hj
        have hcsz := hcs.out
        have hxy := HX.out
        simp only [Array.getElem?_setIfInBounds, Array.size_setIfInBounds]
        rcases (by omega : j < k * 4 ∨ j = k * 4 ∨ j = k * 4 + 1 ∨ j = k * 4 + 2 ∨ j = k * 4 + 3) with h | h | h | h | h
        · rw [if_neg (by omega), if_neg (by omega), if_neg (by omega), if_neg (by omega)]
          exact hall.out j h
        · rw [if_neg (by omega), if_neg (by omega), if_neg (by omega), if_pos (by omega), if_pos (by omega), h, hxy.1]
        · rw [if_neg (by omega), if_neg (by omega), if_pos (by omega), if_pos (by omega), h, hxy.2.1]
        · rw [if_neg (by omega), if_pos (by omega), if_pos (by omega), h, hxy.2.2.1]
        · rw [if_pos (by omega), if_pos (by omega), h, hxy.2.2.2]
    · have hkn : k = n := by omega
      subst hkn
      go_wp2
      go_ret
      exact RetRow.mk (hblk.row (Nat.le_refl _) (by simp [maxLen]; omega) hcs.out HS.out.len (by simpa using hall.out)) hbl

set_option maxHeartbeats 1600000 in
theorem eqGotS_any (A B : Option Addr) (n m cap cap' : Nat) (zs ys : List Int) (w : World) (hS : Sl w 4 A n zs) (hT : Sl w 4 B m ys) (hn : n ≤ maxLen) (hm : m ≤ maxLen) :
    Calls Try.prog 60 #[.slice A n cap, .slice B m cap'] w fun e w' => e = .returned (.bool (eqL zs ys)) ∧ Below w.heap.size w w' := by
  unfold maxLen at hn hm
  by_cases hnm : n = m
  · subst hnm
    have HS := Lib.hid hS
    have HT := Lib.hid hT
    clear hS hT
    go_enter Try.func60, Try.ntmps60
    go_wp2
    go_loopw [5] (fun i wr => ∃ (k : Nat), k ≤ n ∧ i = .int .i64 k ∧ Below w.heap.size w wr ∧ Hid (∀ j, j < k * 4 → zs.getD j 0 = ys.getD j 0)) (fun i _ => n - (intOf i).toNat)
    case atStart => exact ⟨0, Nat.zero_le _, rfl, Below.refl _ _, fun j hj => absurd hj (by omega)⟩
    case round =>
      obtain ⟨k, hk, rfl, hbl, hall⟩ := hrel
      by_cases hlt : k < n
      · obtain ⟨b, off, rfl, hb, hcell⟩ := HS.out.at_ (by omega)
        obtain ⟨b', off', rfl, hb', hcell'⟩ := HT.out.at_ (by omega)
        have h0 := hcell (k * 4) (by omega)
        have h1 := hcell (k * 4 + 1) (by omega)
        have h2 := hcell (k * 4 + 2) (by omega)
        have h3 := hcell (k * 4 + 3) (by omega)
        have p0 := hcell' (k * 4) (by omega)
        have p1 := hcell' (k * 4 + 1) (by omega)
        have p2 := hcell' (k * 4 + 2) (by omega)
        have p3 := hcell' (k * 4 + 3) (by omega)
        rw [← hbl.cell (by exact hb)] at h0 h1 h2 h3
        rw [← hbl.cell (by exact hb')] at p0 p1 p2 p3
        simp only [← Nat.add_assoc] at h0 h1 h2 h3 p0 p1 p2 p3
        clear hcell hcell'
        generalize hx0 : zs.getD (k * 4) 0 = x0 at h0
        generalize hx1 : zs.getD (k * 4 + 1) 0 = x1 at h1
        generalize hx2 : zs.getD (k * 4 + 2) 0 = x2 at h2
        generalize hx3 : zs.getD (k * 4 + 3) 0 = x3 at h3
        generalize hy0 : ys.getD (k * 4) 0 = y0 at p0
        generalize hy1 : ys.getD (k * 4 + 1) 0 = y1 at p1
        generalize hy2 : ys.getD (k * 4 + 2) 0 = y2 at p2
        generalize hy3 : ys.getD (k * 4 + 3) 0 = y3 at p3
        have HX := Lib.hid (And.intro (And.intro hx0 (And.intro hx1 (And.intro hx2 hx3))) (And.intro hy0 (And.intro hy1 (And.intro hy2 hy3))))
        clear hx0 hy0 hx1 hy1 hx2 hy2 hx3 hy3
        have hbr : b < wr.heap.size := Nat.lt_of_lt_of_le hb hbl.size
        have hbr' : b' < wr.heap.size := Nat.lt_of_lt_of_le hb' hbl.size
        rcases Bool.eq_false_or_eq_true (eqL [x0, x1, x2, x3] [y0, y1, y2, y3]) with hq | hq
        · go_wp2
          ((refine wp_region_ext (by kernel_rfl) (by kernel_rfl) ?_); (repeat (any_goals (first | go_big_quiet_step ((go_at_call 95; exact quiet_ext (eqGot_any _ _ _ _ _ _ _ _ _))) | (refine wpQuiet_step (fun K hK => ?_); go_simp; split <;> (refine hK _ ?_; clear hK K)) | quiet_step ((go_at_call 95; exact quiet_ext (eqGot_any _ _ _ _ _ _ _ _ _)))))); (all_goals (refine wpQuiet_nil ?_; rintro _ ⟨z, rfl⟩; have hb' := z.h; generalize z.w = w1 at hb' ⊢; clear z; (first | (have hb2 := bstep hb' hb hb.size; clear hb' hcb hfb hz1 hz2 hz3 hz4 hb; have hb := hb2; clear hb2) | (have hb := hb'; clear hb')); obtain ⟨hcb, hfb, hz1, hz2, hz3, hz4⟩ := bcell hb; (try simp only [World.size_alloc, World.size_setCell, World.size_drew, Nat.lt_add_one_iff, Nat.add_assoc, Nat.reduceAdd] at hz1 hz2 hz3 hz4))))
          go_wp2
          refine ⟨⟨k + 1, by omega, by go_num, bstep hb hbl hbl.size, ?_⟩, by simp [intOf]; omega⟩
          intro j hj
          have hxy := HX.out
          have he := eqL_true hq
          simp only [List.cons.injEq, and_true] at he
          rcases (by omega : j < k * 4 ∨ j = k * 4 ∨ j = k * 4 + 1 ∨ j = k * 4 + 2 ∨ j = k * 4 + 3) with h | h | h | h | h
          · exact hall.out j h
          · rw [h, hxy.1.1, hxy.2.1, he.1]
          · rw [h, hxy.1.2.1, hxy.2.2.1, he.2.1]
          · rw [h, hxy.1.2.2.1, hxy.2.2.2.1, he.2.2.1]
          · rw [h, hxy.1.2.2.2, hxy.2.2.2.2, he.2.2.2]
        · go_wp2
          ((refine wp_region_ext (by kernel_rfl) (by kernel_rfl) ?_); (repeat (any_goals (first | go_big_quiet_step ((go_at_call 95; exact quiet_ext (eqGot_any _ _ _ _ _ _ _ _ _))) | (refine wpQuiet_step (fun K hK => ?_); go_simp; split <;> (refine hK _ ?_; clear hK K)) | quiet_step ((go_at_call 95; exact quiet_ext (eqGot_any _ _ _ _ _ _ _ _ _)))))); (all_goals (refine wpQuiet_nil ?_; rintro _ ⟨z, rfl⟩; have hb' := z.h; generalize z.w = w1 at hb' ⊢; clear z; (first | (have hb2 := bstep hb' hb hb.size; clear hb' hcb hfb hz1 hz2 hz3 hz4 hb; have hb := hb2; clear hb2) | (have hb := hb'; clear hb')); obtain ⟨hcb, hfb, hz1, hz2, hz3, hz4⟩ := bcell hb; (try simp only [World.size_alloc, World.size_setCell, World.size_drew, Nat.lt_add_one_iff, Nat.add_assoc, Nat.reduceAdd] at hz1 hz2 hz3 hz4))))
          go_wp2
          go_ret
          refine ⟨ret_bool (eqL_ne ?_).symm, bstep hb hbl hbl.size⟩
          rintro rfl
          have hxy := HX.out
          exact eqL_false (by rw [hq]; decide) (by simp only [List.cons.injEq, and_true]; exact ⟨hxy.1.1.symm.trans hxy.2.1, hxy.1.2.1.symm.trans hxy.2.2.1, hxy.1.2.2.1.symm.trans hxy.2.2.2.1, hxy.1.2.2.2.symm.trans hxy.2.2.2.2⟩)
      · have hkn : k = n := by omega
        subst hkn
        go_wp2
        go_ret
        have hzy : zs = ys := list_ext_getD (by rw [HS.out.len, HT.out.len]) (fun j hj => hall.out j (by rw [HS.out.len] at hj; omega))
        exact ⟨ret_bool (by rw [hzy]; exact (eqL_self _).symm), hbl⟩
  · have hne : ¬ (n : Int) = (m : Int) := by omega
    have hz : eqL zs ys = false := by
      refine eqL_ne ?_
      rintro rfl
      have h1 := hS.len
      have h2 := hT.len
      omega
    rw [hz]
    clear hz hS hT
    go_enter Try.func60, Try.ntmps60
    go_wp2
    go_ret
    exact ⟨rfl, Below.refl _ _⟩

set_option maxHeartbeats 2000000 in
theorem equalGotS_any (A B : Option Addr) (n m cap cap' : Nat) (zs ys : List Int) (w : World) (hS : Sl w 4 A n zs) (hT : Sl w 4 B m ys) (hn : n ≤ maxLen) (hm : m ≤ maxLen) :
    Calls Try.prog 59 #[.slice A n cap, .slice B m cap'] w fun e w' => e = .returned (.bool (eqL zs ys)) ∧ Below w.heap.size w w' := by
  unfold maxLen at hn hm
  by_cases hnm : n = m
  · subst hnm
    have HS := Lib.hid hS
    have HT := Lib.hid hT
    clear hS hT
    go_enter Try.func59, Try.ntmps59
    go_wp2
    go_loopw [13] (fun i wr => ∃ (k : Nat), k ≤ n ∧ i = .int .i64 k ∧ Below w.heap.size w wr ∧ Hid (∀ j, j < k * 4 → zs.getD j 0 = ys.getD j 0)) (fun i _ => n - (intOf i).toNat)
    case atStart => exact ⟨0, Nat.zero_le _, rfl, Below.refl _ _, fun j hj => absurd hj (by omega)⟩
    case round =>
      obtain ⟨k, hk, rfl, hbl, hall⟩ := hrel
      by_cases hlt : k < n
      · obtain ⟨b, off, rfl, hb, hcell⟩ := HS.out.at_ (by omega)
        obtain ⟨b', off', rfl, hb', hcell'⟩ := HT.out.at_ (by omega)
        have h0 := hcell (k * 4) (by omega)
        have h1 := hcell (k * 4 + 1) (by omega)
        have h2 := hcell (k * 4 + 2) (by omega)
        have h3 := hcell (k * 4 + 3) (by omega)
        have p0 := hcell' (k * 4) (by omega)
        have p1 := hcell' (k * 4 + 1) (by omega)
        have p2 := hcell' (k * 4 + 2) (by omega)
        have p3 := hcell' (k * 4 + 3) (by omega)
        rw [← hbl.cell (by exact hb)] at h0 h1 h2 h3
        rw [← hbl.cell (by exact hb')] at p0 p1 p2 p3
        simp only [← Nat.add_assoc] at h0 h1 h2 h3 p0 p1 p2 p3
        clear hcell hcell'
        generalize hx0 : zs.getD (k * 4) 0 = x0 at h0
        generalize hx1 : zs.getD (k * 4 + 1) 0 = x1 at h1
        generalize hx2 : zs.getD (k * 4 + 2) 0 = x2 at h2
        generalize hx3 : zs.getD (k * 4 + 3) 0 = x3 at h3
        generalize hy0 : ys.getD (k * 4) 0 = y0 at p0
        generalize hy1 : ys.getD (k * 4 + 1) 0 = y1 at p1
        generalize hy2 : ys.getD (k * 4 + 2) 0 = y2 at p2
        generalize hy3 : ys.getD (k * 4 + 3) 0 = y3 at p3
        have HX := Lib.hid (And.intro (And.intro hx0 (And.intro hx1 (And.intro hx2 hx3))) (And.intro hy0 (And.intro hy1 (And.intro hy2 hy3))))
        clear hx0 hy0 hx1 hy1 hx2 hy2 hx3 hy3
        have hbr : b < wr.heap.size := Nat.lt_of_lt_of_le hb hbl.size
        have hbr' : b' < wr.heap.size := Nat.lt_of_lt_of_le hb' hbl.size
        have hk2 : (k : Int) < (n : Int) := by omega
        have hcs : (¬ x0 = y0) ∨ (x0 = y0 ∧ ¬ x1 = y1) ∨ (x0 = y0 ∧ x1 = y1 ∧ ¬ x2 = y2) ∨ (x0 = y0 ∧ x1 = y1 ∧ x2 = y2 ∧ ¬ x3 = y3) ∨ (x0 = y0 ∧ x1 = y1 ∧ x2 = y2 ∧ x3 = y3) := by omega
        rcases hcs with ⟨d0⟩ | ⟨d0, d1⟩ | ⟨d0, d1, d2⟩ | ⟨d0, d1, d2, d3⟩ | ⟨d0, d1, d2, d3⟩
        · have hq' : (x0 == y0) = false := by simpa using d0
          go_wp2
          ((refine wp_region_ext (by kernel_rfl) (by kernel_rfl) ?_); (repeat (any_goals (first | go_big_quiet_step (fail) | (refine wpQuiet_step (fun K hK => ?_); go_simp; split <;> (refine hK _ ?_; clear hK K)) | quiet_step (fail)))); (all_goals (refine wpQuiet_nil ?_; rintro _ ⟨z, rfl⟩; have hb' := z.h; generalize z.w = w1 at hb' ⊢; clear z; (first | (have hb2 := bstep hb' hb hb.size; clear hb' hcb hfb hz1 hz2 hz3 hz4 hb; have hb := hb2; clear hb2) | (have hb := hb'; clear hb')); obtain ⟨hcb, hfb, hz1, hz2, hz3, hz4⟩ := bcell hb; (try simp only [World.size_alloc, World.size_setCell, World.size_drew, Nat.lt_add_one_iff, Nat.add_assoc, Nat.reduceAdd] at hz1 hz2 hz3 hz4))))
          go_wp2
          go_ret
          refine ⟨ret_bool (eqL_ne ?_).symm, bstep hb hbl hbl.size⟩
          rintro rfl
          have hxy := HX.out
          exact d0 (hxy.1.1.symm.trans hxy.2.1)
        · have hq' : (x1 == y1) = false := by simpa using d1
          obtain rfl := d0
          go_wp2
          ((refine wp_region_ext (by kernel_rfl) (by kernel_rfl) ?_); (repeat (any_goals (first | go_big_quiet_step (fail) | (refine wpQuiet_step (fun K hK => ?_); go_simp; split <;> (refine hK _ ?_; clear hK K)) | quiet_step (fail)))); (all_goals (refine wpQuiet_nil ?_; rintro _ ⟨z, rfl⟩; have hb' := z.h; generalize z.w = w1 at hb' ⊢; clear z; (first | (have hb2 := bstep hb' hb hb.size; clear hb' hcb hfb hz1 hz2 hz3 hz4 hb; have hb := hb2; clear hb2) | (have hb := hb'; clear hb')); obtain ⟨hcb, hfb, hz1, hz2, hz3, hz4⟩ := bcell hb; (try simp only [World.size_alloc, World.size_setCell, World.size_drew, Nat.lt_add_one_iff, Nat.add_assoc, Nat.reduceAdd] at hz1 hz2 hz3 hz4))))
          go_wp2
          go_ret
          refine ⟨ret_bool (eqL_ne ?_).symm, bstep hb hbl hbl.size⟩
          rintro rfl
          have hxy := HX.out
          exact d1 (hxy.1.2.1.symm.trans hxy.2.2.1)
        · have hq' : (x2 == y2) = false := by simpa using d2
          obtain rfl := d0
          obtain rfl := d1
          go_wp2
          ((refine wp_region_ext (by kernel_rfl) (by kernel_rfl) ?_); (repeat (any_goals (first | go_big_quiet_step (fail) | (refine wpQuiet_step (fun K hK => ?_); go_simp; split <;> (refine hK _ ?_; clear hK K)) | quiet_step (fail)))); (all_goals (refine wpQuiet_nil ?_; rintro _ ⟨z, rfl⟩; have hb' := z.h; generalize z.w = w1 at hb' ⊢; clear z; (first | (have hb2 := bstep hb' hb hb.size; clear hb' hcb hfb hz1 hz2 hz3 hz4 hb; have hb := hb2; clear hb2) | (have hb := hb'; clear hb')); obtain ⟨hcb, hfb, hz1, hz2, hz3, hz4⟩ := bcell hb; (try simp only [World.size_alloc, World.size_setCell, World.size_drew, Nat.lt_add_one_iff, Nat.add_assoc, Nat.reduceAdd] at hz1 hz2 hz3 hz4))))
          go_wp2
          go_ret
          refine ⟨ret_bool (eqL_ne ?_).symm, bstep hb hbl hbl.size⟩
          rintro rfl
          have hxy := HX.out
          exact d2 (hxy.1.2.2.1.symm.trans hxy.2.2.2.1)
        · have hq' : (x3 == y3) = false := by simpa using d3
          obtain rfl := d0
          obtain rfl := d1
          obtain rfl := d2
          go_wp2
          ((refine wp_region_ext (by kernel_rfl) (by kernel_rfl) ?_); (repeat (any_goals (first | go_big_quiet_step (fail) | (refine wpQuiet_step (fun K hK => ?_); go_simp; split <;> (refine hK _ ?_; clear hK K)) | quiet_step (fail)))); (all_goals (refine wpQuiet_nil ?_; rintro _ ⟨z, rfl⟩; have hb' := z.h; generalize z.w = w1 at hb' ⊢; clear z; (first | (have hb2 := bstep hb' hb hb.size; clear hb' hcb hfb hz1 hz2 hz3 hz4 hb; have hb := hb2; clear hb2) | (have hb := hb'; clear hb')); obtain ⟨hcb, hfb, hz1, hz2, hz3, hz4⟩ := bcell hb; (try simp only [World.size_alloc, World.size_setCell, World.size_drew, Nat.lt_add_one_iff, Nat.add_assoc, Nat.reduceAdd] at hz1 hz2 hz3 hz4))))
          go_wp2
          go_ret
          refine ⟨ret_bool (eqL_ne ?_).symm, bstep hb hbl hbl.size⟩
          rintro rfl
          have hxy := HX.out
          exact d3 (hxy.1.2.2.2.symm.trans hxy.2.2.2.2)
        · obtain rfl := d0
          obtain rfl := d1
          obtain rfl := d2
          obtain rfl := d3
          go_wp2
          ((refine wp_region_ext (by kernel_rfl) (by kernel_rfl) ?_); (repeat (any_goals (first | go_big_quiet_step (fail) | (refine wpQuiet_step (fun K hK => ?_); go_simp; split <;> (refine hK _ ?_; clear hK K)) | quiet_step (fail)))); (all_goals (refine wpQuiet_nil ?_; rintro _ ⟨z, rfl⟩; have hb' := z.h; generalize z.w = w1 at hb' ⊢; clear z; (first | (have hb2 := bstep hb' hb hb.size; clear hb' hcb hfb hz1 hz2 hz3 hz4 hb; have hb := hb2; clear hb2) | (have hb := hb'; clear hb')); obtain ⟨hcb, hfb, hz1, hz2, hz3, hz4⟩ := bcell hb; (try simp only [World.size_alloc, World.size_setCell, World.size_drew, Nat.lt_add_one_iff, Nat.add_assoc, Nat.reduceAdd] at hz1 hz2 hz3 hz4))))
          go_wp2
          refine ⟨⟨k + 1, by omega, by go_num, bstep hb hbl hbl.size, ?_⟩, by simp [intOf]; omega⟩
          intro j hj
          have hxy := HX.out
          rcases (by omega : j < k * 4 ∨ j = k * 4 ∨ j = k * 4 + 1 ∨ j = k * 4 + 2 ∨ j = k * 4 + 3) with h | h | h | h | h
          · exact hall.out j h
          · rw [h, hxy.1.1, hxy.2.1]
          · rw [h, hxy.1.2.1, hxy.2.2.1]
          · rw [h, hxy.1.2.2.1, hxy.2.2.2.1]
          · rw [h, hxy.1.2.2.2, hxy.2.2.2.2]
      · have hkn : k = n := by omega
        subst hkn
        go_wp2
        go_ret
        have hzy : zs = ys := list_ext_getD (by rw [HS.out.len, HT.out.len]) (fun j hj => hall.out j (by rw [HS.out.len] at hj; omega))
        exact ⟨ret_bool (by rw [hzy]; exact (eqL_self _).symm), hbl⟩
  · have hne : ¬ (n : Int) = (m : Int) := by omega
    have hz : eqL zs ys = false := by
      refine eqL_ne ?_
      rintro rfl
      have h1 := hS.len
      have h2 := hT.len
      omega
    rw [hz]
    clear hz hS hT
    go_enter Try.func59, Try.ntmps59
    go_wp2
    go_ret
    exact ⟨rfl, Below.refl _ _⟩

set_option maxHeartbeats 1600000 in
theorem markGotS_any (lo : Nat) (A : Option Addr) (n cap : Nat) (zs : List Int) (k0 : Int) (w : World) (hR : Row w lo 72 4 A n cap zs) (hn : n ≤ 1048576) (hk0 : 0 ≤ k0) (hk1 : k0 ≤ 1073741824) :
    Calls Try.prog 69 #[.slice A n cap, .int .i64 k0] w (RetMark w lo 72 4 A n cap k0) := by
  by_cases hz : n = 0
  · subst hz
    have hR' : Row w lo 72 4 A 0 cap (marks k0 (0 * 4)) := by
      have hl := hR.len
      have : zs = [] := List.eq_nil_of_length_eq_zero (by omega)
      subst this
      exact hR
    have HR := Lib.hid hR'
    clear hR hR'
    go_enter Try.func69, Try.ntmps69
    go_wp2
    go_loop [1, 5] (fun q i => i = .int .i64 0 ∧ q = .int .i64 k0) (fun _ _ => 0)
    case atStart => exact ⟨rfl, rfl⟩
    case round =>
      obtain ⟨rfl, rfl⟩ := hrel
      go_wp2
      go_ret
      exact RetMark.mk (by simp) HR.out (World.grownBy.refl _ _)
  · obtain ⟨g, cs, rfl, hlo, hblk, hnc, hcm, hcs, _⟩ := hR.blk (by omega)
    have HC := Lib.hid (And.intro hcs (And.intro hnc hcm))
    clear hR hcs hcm hz
    have hnc' : (n : Int) ≤ (cap : Int) := by omega
    go_enter Try.func69, Try.ntmps69
    go_wp2
    go_loopw [1, 5] (fun q i wr => ∃ (k : Nat) (cs : Array Value), k ≤ n ∧ i = .int .i64 k ∧ q = .int .i64 (k0 + (k * 4 : Nat)) ∧ Hid (Wrote w wr (some ⟨g, 0, none⟩)) ∧ Blk wr g 72 cs ∧ Hid (cs.size = cap * 4) ∧ Hid (∀ j, j < k * 4 → cs[j]? = some (.int .i64 (k0 + (j : Int))))) (fun _ i _ => n - (intOf i).toNat)
    case atStart => exact ⟨0, cs, Nat.zero_le _, rfl, by simp, World.grownBy.refl _ _, hblk, HC.out.1, fun j hj => absurd hj (by omega)⟩
    case round =>
      obtain ⟨k, cs', hk, rfl, rfl, hwr, hblk', hcs', hall⟩ := hrel
      by_cases hlt : k < n
      · have _hg := hlt
        obtain ⟨c0, g0⟩ := hblk'.has (i := k * 4) (by have := hcs'.out; have := HC.out.2.1; omega)
        obtain ⟨c1, g1⟩ := hblk'.has (i := k * 4 + 1) (by have := hcs'.out; have := HC.out.2.1; omega)
        obtain ⟨c2, g2⟩ := hblk'.has (i := k * 4 + 2) (by have := hcs'.out; have := HC.out.2.1; omega)
        obtain ⟨c3, g3⟩ := hblk'.has (i := k * 4 + 3) (by have := hcs'.out; have := HC.out.2.1; omega)
        have f0 := hblk'.frozen (k * 4)
        have f1 := hblk'.frozen (k * 4 + 1)
        have f2 := hblk'.frozen (k * 4 + 2)
        have f3 := hblk'.frozen (k * 4 + 3)
        go_wp2
        refine ⟨⟨k + 1, _, by omega, by go_num, congrArg (Value.int .i64) (by omega), ?_, ((((hblk'.set_ _ _).set_ _ _).set_ _ _).set_ _ _), ?_, ?_⟩, by simp [intOf]; omega⟩
        · exact (wrote_set (p := ⟨g, k * 4 + 3, none⟩) (wrote_set (p := ⟨g, k * 4 + 2, none⟩) (wrote_set (p := ⟨g, k * 4 + 1, none⟩) (wrote_set (p := ⟨g, k * 4, none⟩) hwr.out rfl _) rfl _) rfl _) rfl _)
        · show Array.size _ = _
          simp only [Array.size_setIfInBounds]
          exact hcs'.out
        · intro j hj
          have hcsz := hcs'.out
          have hnc := HC.out.2.1
          simp only [Array.getElem?_setIfInBounds, Array.size_setIfInBounds]
          rcases (by omega : j < k * 4 ∨ j = k * 4 ∨ j = k * 4 + 1 ∨ j = k * 4 + 2 ∨ j = k * 4 + 3) with h | h | h | h | h
          · rw [if_neg (by omega), if_neg (by omega), if_neg (by omega), if_neg (by omega)]
            exact hall.out j h
          · rw [if_neg (by omega), if_neg (by omega), if_neg (by omega), if_pos (by omega), if_pos (by omega), h]
            try exact congrArg (fun z => some (Value.int .i64 z)) (by omega)
          · rw [if_neg (by omega), if_neg (by omega), if_pos (by omega), if_pos (by omega), h]
            try exact congrArg (fun z => some (Value.int .i64 z)) (by omega)
          · rw [if_neg (by omega), if_pos (by omega), if_pos (by omega), h]
            try exact congrArg (fun z => some (Value.int .i64 z)) (by omega)
          · rw [if_pos (by omega), if_pos (by omega), h]
            try exact congrArg (fun z => some (Value.int .i64 z)) (by omega)
      · have hkn : k = n := by omega
        subst hkn
        go_wp2
        go_ret
        refine RetMark.mk (by omega) (Row.of_blk hblk' hlo HC.out.2.1 HC.out.2.2 hcs'.out (marks_length _ _) (fun j hj => ?_)) hwr.out
        rw [marks_getD _ _ _ hj]
        exact hall.out j (by omega)

set_option maxHeartbeats 1600000 in
theorem heldGotS_any (A : Option Addr) (n cap : Nat) (k0 : Int) (w : World) (hS : Sl w 4 A n (marks k0 (n * 4))) (hn : n ≤ 1048576) (hk0 : 0 ≤ k0) (hk1 : k0 ≤ 1073741824) :
    Calls Try.prog 71 #[.slice A n cap, .int .i64 k0] w fun e w' => e = .returned (.int .i64 (k0 + (n * 4 : Nat))) ∧ w = w' := by
  have HS := Lib.hid hS
  clear hS
  go_enter Try.func71, Try.ntmps71
  go_wp2
  go_loop [1, 5] (fun q i => ∃ (k : Nat), k ≤ n ∧ i = .int .i64 k ∧ q = .int .i64 (k0 + (k * 4 : Nat))) (fun _ i => n - (intOf i).toNat)
  case atStart => exact ⟨0, Nat.zero_le _, rfl, by simp⟩
  case round =>
    obtain ⟨k, hk, rfl, rfl⟩ := hrel
    by_cases hlt : k < n
    · obtain ⟨b, off, rfl, hb, hcell⟩ := HS.out.at_ (by omega)
      have h0 := hcell (k * 4) (by omega)
      have h1 := hcell (k * 4 + 1) (by omega)
      have h2 := hcell (k * 4 + 2) (by omega)
      have h3 := hcell (k * 4 + 3) (by omega)
      rw [marks_getD _ _ _ (by omega)] at h0 h1 h2 h3
      simp only [← Nat.add_assoc] at h0 h1 h2 h3
      clear hcell
      go_wp2
      exact ⟨⟨k + 1, by omega, by go_num, congrArg (Value.int .i64) (by omega)⟩, by simp [intOf]; omega⟩
    · have hkn : k = n := by omega
      subst hkn
      go_wp2
      go_ret
      exact ⟨ret_int (by omega), rfl⟩
end Go.Proofs.Ytbcpcddmekoaeaa

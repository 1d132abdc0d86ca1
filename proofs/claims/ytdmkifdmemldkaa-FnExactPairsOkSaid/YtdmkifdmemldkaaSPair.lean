/- The law's own helpers on slices of Pair: sz, to, eq, mark, held. -/
import Derived.Test.YtdmkifdmemldkaaA1
import Derived.Test.YtdmkifdmemldkaaMem
namespace Go.Proofs.Ytdmkifdmemldkaa
set_option linter.unusedSimpArgs false
set_option linter.unusedVariables false
open Go.RowKit
attribute [local go_sem] Ext.cell Ext.frozen
set_option maxHeartbeats 400000 in
theorem toPair_any (a0 a1 : Int) (w : World) :
    Calls Try.prog 60 #[.agg #[.int .i64 a0, .int .i64 a1]] w fun e' w' => e' = .returned (.agg #[.int .i64 a0, .int .i64 a1]) ∧ Below w.heap.size w w' := by
  go_enter Try.func60, Try.ntmps60
  go_wp2
  refine bodyPost_ret (v := .agg #[.int .i64 a0, .int .i64 a1]) (by simp [results, Try.results60, go_sem]) rfl ⟨rfl, ?_⟩
  (repeat' (first | (with_reducible exact Below.refl _ _) | (with_reducible assumption) | (with_reducible refine Below.alloc ?_ ?_ _) | (with_reducible refine Below.drew ?_) | (with_reducible refine Below.setCell ?_ ?_ _) | (with_reducible refine bstep (by assumption) ?_ ?_) | (with_reducible exact Nat.le_refl _) | omega | (simp [*]; done) | (simp [*]; omega)))
set_option maxHeartbeats 1000000 in
theorem eqPair_any (a0 a1 b0 b1 : Int) (w : World) :
    Calls Try.prog 61 #[.agg #[.int .i64 a0, .int .i64 a1], .agg #[.int .i64 b0, .int .i64 b1]] w fun e' w' => e' = .returned (.bool (eqL [a0, a1] [b0, b1])) ∧ Below w.heap.size w w' := by
  go_enter Try.func61, Try.ntmps61
  go_wp2
  all_goals (go_ret; exact ⟨ret_bool (by unfold eqL; (first | rfl | (simp [*]; done) | (subst_vars; simp [*]; done) | (simp_all; done))), by (repeat' (first | (with_reducible exact Below.refl _ _) | (with_reducible assumption) | (with_reducible refine Below.alloc ?_ ?_ _) | (with_reducible refine Below.drew ?_) | (with_reducible refine Below.setCell ?_ ?_ _) | (with_reducible refine bstep (by assumption) ?_ ?_) | (with_reducible exact Nat.le_refl _) | omega | (simp [*]; done) | (simp [*]; omega)))⟩)

theorem szPairS_yes (A : Option Addr) (n cap : Nat) (left : Int) (w : World) (hn : (n : Int) ≤ left) (hl : left ≤ 1048576) :
    Calls Try.prog 38 #[.slice A n cap, .int .i64 left] w fun e w' => e = .returned (.int .i64 (left - n)) ∧ w = w' := by
  go_enter Try.func38, Try.ntmps38
  go_wp2
  go_ret
  exact ⟨rfl, rfl⟩
theorem szPairS_no (A : Option Addr) (n cap : Nat) (left : Int) (w : World) (hn : left < (n : Int)) (h0 : 0 ≤ left) (hl : left ≤ 1048576) (hm : n ≤ maxLen) :
    Calls Try.prog 38 #[.slice A n cap, .int .i64 left] w fun e w' => e = .returned (.int .i64 (-1)) ∧ w = w' := by
  unfold maxLen at hm
  go_enter Try.func38, Try.ntmps38
  go_wp2
  go_ret
  exact ⟨rfl, rfl⟩

theorem info_Pair : (Try.prog.info? 69).map (fun i => (i.zero, i.size, i.bytes)) = some (some (.agg #[.int .i64 0, .int .i64 0]), 2, 16) := by kernel_rfl

set_option maxHeartbeats 1600000 in
theorem toPairS_any (A : Option Addr) (n cap : Nat) (zs : List Int) (w : World) (hS : Sl w 2 A n zs) (hn : n ≤ 1048576) :
    Calls Try.prog 40 #[.slice A n cap] w (RetRow w 69 2 n zs) := by
  have hmk := fun W => make_flat (P := Try.prog) 52 69 (.agg #[.int .i64 0, .int .i64 0]) 2 16 Try.underlying52 info_Pair (by decide) n hn W
  have HS := Lib.hid hS
  clear hS
  go_enter Try.func40, Try.ntmps40
  go_wp2
  clear hmk
  go_loopw [4] (fun i wr => ∃ (k : Nat) (cs : Array Value), k ≤ n ∧ i = .int .i64 k ∧ Below w.heap.size w wr ∧ Blk wr w.heap.size 69 cs ∧ Hid (cs.size = n * 2) ∧ Hid (∀ j, j < k * 2 → cs[j]? = some (.int .i64 (zs.getD j 0)))) (fun i _ => n - (intOf i).toNat)
  case atStart => exact ⟨0, _, Nat.zero_le _, rfl, (Below.refl _ _).alloc (Nat.le_refl _) _, Blk.new _ _ _, by simp [size_madeCells, Hid], fun j hj => absurd hj (by omega)⟩
  case round =>
    obtain ⟨k, cs, hk, rfl, hbl, hblk, hcs, hall⟩ := hrel
    by_cases hlt : k < n
    · obtain ⟨b, off, rfl, hb, hcell⟩ := HS.out.at_ (by omega)
      have h0 := hcell (k * 2) (by omega)
      have h1 := hcell (k * 2 + 1) (by omega)
      rw [← hbl.cell (by exact hb)] at h0 h1
      simp only [← Nat.add_assoc] at h0 h1
      clear hcell
      generalize hx0 : zs.getD (k * 2) 0 = x0 at h0
      generalize hx1 : zs.getD (k * 2 + 1) 0 = x1 at h1
      have HX := Lib.hid (And.intro hx0 hx1)
      clear hx0 hx1
      have hg := hblk.lt
      have hbr : b < wr.heap.size := Nat.lt_of_lt_of_le hb hbl.size
      obtain ⟨c0, g0⟩ := hblk.has (i := k * 2) (by have := hcs.out; omega)
      obtain ⟨c1, g1⟩ := hblk.has (i := k * 2 + 1) (by have := hcs.out; omega)
      have f0 := hblk.frozen (k * 2)
      have f1 := hblk.frozen (k * 2 + 1)
      go_wp2_with ((go_at_call 60; refine (toPair_any _ _ _).mono ?_; rintro e w1 ⟨rfl, hb'⟩; (first | (have hb2 := bstep hb' hb hb.size; clear hb' hcb hfb hz1 hz2 hz3 hz4 hb; have hb := hb2; clear hb2) | (have hb := hb'; clear hb')); obtain ⟨hcb, hfb, hz1, hz2, hz3, hz4⟩ := bcell hb; (try simp only [World.size_alloc, World.size_setCell, World.size_drew, Nat.lt_add_one_iff, Nat.add_assoc, Nat.reduceAdd] at hz1 hz2 hz3 hz4)))
      refine ⟨⟨k + 1, _, by omega, by go_num, (((bstep hb hbl hbl.size).setCell (by simp) _).setCell (by simp) _), (((hblk.below hb).set_ _ _).set_ _ _), ?_, ?_⟩, by simp [intOf]; omega⟩
      · show Array.size _ = _
        simp only [Array.size_setIfInBounds]
        exact hcs.out
      · intro j hj
        have hcsz := hcs.out
        have hxy := HX.out
        simp only [Array.getElem?_setIfInBounds, Array.size_setIfInBounds]
        rcases (by omega : j < k * 2 ∨ j = k * 2 ∨ j = k * 2 + 1) with h | h | h
        · rw [if_neg (by omega), if_neg (by omega)]
          exact hall.out j h
        · rw [if_neg (by omega), if_pos (by omega), if_pos (by omega), h, hxy.1]
        · rw [if_pos (by omega), if_pos (by omega), h, hxy.2]
    · have hkn : k = n := by omega
      subst hkn
      go_wp2
      go_ret
      exact RetRow.mk (hblk.row (Nat.le_refl _) (by simp [maxLen]; omega) hcs.out HS.out.len (by simpa using hall.out)) hbl

set_option maxHeartbeats 1600000 in
theorem eqPairS_any (A B : Option Addr) (n m cap cap' : Nat) (zs ys : List Int) (w : World) (hS : Sl w 2 A n zs) (hT : Sl w 2 B m ys) (hn : n ≤ maxLen) (hm : m ≤ maxLen) :
    Calls Try.prog 42 #[.slice A n cap, .slice B m cap'] w fun e w' => e = .returned (.bool (eqL zs ys)) ∧ Below w.heap.size w w' := by
  unfold maxLen at hn hm
  by_cases hnm : n = m
  · subst hnm
    have HS := Lib.hid hS
    have HT := Lib.hid hT
    clear hS hT
    go_enter Try.func42, Try.ntmps42
    go_wp2
    go_loopw [5] (fun i wr => ∃ (k : Nat), k ≤ n ∧ i = .int .i64 k ∧ Below w.heap.size w wr ∧ Hid (∀ j, j < k * 2 → zs.getD j 0 = ys.getD j 0)) (fun i _ => n - (intOf i).toNat)
    case atStart => exact ⟨0, Nat.zero_le _, rfl, Below.refl _ _, fun j hj => absurd hj (by omega)⟩
    case round =>
      obtain ⟨k, hk, rfl, hbl, hall⟩ := hrel
      by_cases hlt : k < n
      · obtain ⟨b, off, rfl, hb, hcell⟩ := HS.out.at_ (by omega)
        obtain ⟨b', off', rfl, hb', hcell'⟩ := HT.out.at_ (by omega)
        have h0 := hcell (k * 2) (by omega)
        have h1 := hcell (k * 2 + 1) (by omega)
        have p0 := hcell' (k * 2) (by omega)
        have p1 := hcell' (k * 2 + 1) (by omega)
        rw [← hbl.cell (by exact hb)] at h0 h1
        rw [← hbl.cell (by exact hb')] at p0 p1
        simp only [← Nat.add_assoc] at h0 h1 p0 p1
        clear hcell hcell'
        generalize hx0 : zs.getD (k * 2) 0 = x0 at h0
        generalize hx1 : zs.getD (k * 2 + 1) 0 = x1 at h1
        generalize hy0 : ys.getD (k * 2) 0 = y0 at p0
        generalize hy1 : ys.getD (k * 2 + 1) 0 = y1 at p1
        have HX := Lib.hid (And.intro (And.intro hx0 hx1) (And.intro hy0 hy1))
        clear hx0 hy0 hx1 hy1
        have hbr : b < wr.heap.size := Nat.lt_of_lt_of_le hb hbl.size
        have hbr' : b' < wr.heap.size := Nat.lt_of_lt_of_le hb' hbl.size
        rcases Bool.eq_false_or_eq_true (eqL [x0, x1] [y0, y1]) with hq | hq
        · go_wp2
          ((refine wp_region_ext (by kernel_rfl) (by kernel_rfl) ?_); (repeat (any_goals (first | go_big_quiet_step ((go_at_call 61; exact quiet_ext (eqPair_any _ _ _ _ _))) | (refine wpQuiet_step (fun K hK => ?_); go_simp; split <;> (refine hK _ ?_; clear hK K)) | quiet_step ((go_at_call 61; exact quiet_ext (eqPair_any _ _ _ _ _)))))); (all_goals (refine wpQuiet_nil ?_; rintro _ ⟨z, rfl⟩; have hb' := z.h; generalize z.w = w1 at hb' ⊢; clear z; (first | (have hb2 := bstep hb' hb hb.size; clear hb' hcb hfb hz1 hz2 hz3 hz4 hb; have hb := hb2; clear hb2) | (have hb := hb'; clear hb')); obtain ⟨hcb, hfb, hz1, hz2, hz3, hz4⟩ := bcell hb; (try simp only [World.size_alloc, World.size_setCell, World.size_drew, Nat.lt_add_one_iff, Nat.add_assoc, Nat.reduceAdd] at hz1 hz2 hz3 hz4))))
          go_wp2
          refine ⟨⟨k + 1, by omega, by go_num, bstep hb hbl hbl.size, ?_⟩, by simp [intOf]; omega⟩
          intro j hj
          have hxy := HX.out
          have he := eqL_true hq
          simp only [List.cons.injEq, and_true] at he
          rcases (by omega : j < k * 2 ∨ j = k * 2 ∨ j = k * 2 + 1) with h | h | h
          · exact hall.out j h
          · rw [h, hxy.1.1, hxy.2.1, he.1]
          · rw [h, hxy.1.2, hxy.2.2, he.2]
        · go_wp2
          ((refine wp_region_ext (by kernel_rfl) (by kernel_rfl) ?_); (repeat (any_goals (first | go_big_quiet_step ((go_at_call 61; exact quiet_ext (eqPair_any _ _ _ _ _))) | (refine wpQuiet_step (fun K hK => ?_); go_simp; split <;> (refine hK _ ?_; clear hK K)) | quiet_step ((go_at_call 61; exact quiet_ext (eqPair_any _ _ _ _ _)))))); (all_goals (refine wpQuiet_nil ?_; rintro _ ⟨z, rfl⟩; have hb' := z.h; generalize z.w = w1 at hb' ⊢; clear z; (first | (have hb2 := bstep hb' hb hb.size; clear hb' hcb hfb hz1 hz2 hz3 hz4 hb; have hb := hb2; clear hb2) | (have hb := hb'; clear hb')); obtain ⟨hcb, hfb, hz1, hz2, hz3, hz4⟩ := bcell hb; (try simp only [World.size_alloc, World.size_setCell, World.size_drew, Nat.lt_add_one_iff, Nat.add_assoc, Nat.reduceAdd] at hz1 hz2 hz3 hz4))))
          go_wp2
          go_ret
          refine ⟨ret_bool (eqL_ne ?_).symm, bstep hb hbl hbl.size⟩
          rintro rfl
          have hxy := HX.out
          exact eqL_false (by rw [hq]; decide) (by simp only [List.cons.injEq, and_true]; exact ⟨hxy.1.1.symm.trans hxy.2.1, hxy.1.2.symm.trans hxy.2.2⟩)
      · have hkn : k = n := by omega
        subst hkn
        go_wp2
        go_ret
        have hzy : zs = ys := list_ext_getD (by rw [HS.out.len, HT.out.len]) (fun j hj => hall.out j (by rw [HS.out.len] at hj; omega))
        exact ⟨ret_bool (by rw [hzy]; exact (eqL_self _).symm), hbl⟩
  · have hne : ¬ (n : Int) = (m : Int) := by omega
    have hz : eqL zs ys = false := by
      refine eqL_ne ?_
      rintro rfl
      have h1 := hS.len
      have h2 := hT.len
      omega
    rw [hz]
    clear hz hS hT
    go_enter Try.func42, Try.ntmps42
    go_wp2
    go_ret
    exact ⟨rfl, Below.refl _ _⟩


end Go.Proofs.Ytdmkifdmemldkaa

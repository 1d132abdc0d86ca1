/- Part 2 of what the claim rests on: SPair, P7, RJS, AddL, OpenL, Cp, O8, Lease, Lease2, St1, S1, C1. No condition of its own. -/
import Derived.Test.YtokklkmibjpjnaaGreatBd1
import Derived.Laws.AppendOwnNone
import Derived.Deep.RegionHeldLaw
import Derived.Deep.AppendLies
import Derived.Deep.RegionLawGrows
namespace Go.Proofs.YtokklkmibjpjnaaGreat
set_option linter.unusedSimpArgs false
set_option linter.unusedVariables false
attribute [local go_sem] n_lt2 n_lt3 n_lt4 n_le2 n_le3
open Go.RowKit
attribute [local go_sem] Ext.cell Ext.frozen
set_option maxRecDepth 100000 in
set_option maxHeartbeats 400000 in
theorem toPair_any (a0 a1 : Int) (w : World) :
    Calls Tryz.prog 72 #[.agg #[.int .i64 a0, .int .i64 a1]] w fun e' w' => e' = .returned (.agg #[.int .i64 a0, .int .i64 a1]) ∧ Below w.heap.size w w' := by
  go_enter Tryz.func72, Tryz.ntmps72
  go_wp2
  refine bodyPost_ret (v := .agg #[.int .i64 a0, .int .i64 a1]) (by simp [results, Tryz.results72, go_sem]) rfl ⟨rfl, ?_⟩
  (repeat' (first | (with_reducible exact Below.refl _ _) | (with_reducible assumption) | (with_reducible refine Below.alloc ?_ ?_ _) | (with_reducible refine Below.drew ?_) | (with_reducible refine Below.setCell ?_ ?_ _) | (with_reducible refine bstep (by assumption) ?_ ?_) | (with_reducible exact Nat.le_refl _) | omega | (simp [*]; done) | (simp [*]; omega)))
set_option maxHeartbeats 1000000 in
theorem eqPair_any (a0 a1 b0 b1 : Int) (w : World) :
    Calls Tryz.prog 83 #[.agg #[.int .i64 a0, .int .i64 a1], .agg #[.int .i64 b0, .int .i64 b1]] w fun e' w' => e' = .returned (.bool (eqL [a0, a1] [b0, b1])) ∧ Below w.heap.size w w' := by
  go_enter Tryz.func83, Tryz.ntmps83
  go_wp2
  all_goals (go_ret; exact ⟨ret_bool (by unfold eqL; (first | rfl | (simp [*]; done) | (subst_vars; simp [*]; done) | (simp_all; done))), by (repeat' (first | (with_reducible exact Below.refl _ _) | (with_reducible assumption) | (with_reducible refine Below.alloc ?_ ?_ _) | (with_reducible refine Below.drew ?_) | (with_reducible refine Below.setCell ?_ ?_ _) | (with_reducible refine bstep (by assumption) ?_ ?_) | (with_reducible exact Nat.le_refl _) | omega | (simp [*]; done) | (simp [*]; omega)))⟩)

theorem szPairS_yes (A : Option Addr) (n cap : Nat) (left : Int) (w : World) (hn : (n : Int) ≤ left) (hl : left ≤ 1048576) :
    Calls Tryz.prog 25 #[.slice A n cap, .int .i64 left] w fun e w' => e = .returned (.int .i64 (left - n)) ∧ w = w' := by
  go_enter Tryz.func25, Tryz.ntmps25
  go_wp2
  go_ret
  exact ⟨rfl, rfl⟩
theorem szPairS_no (A : Option Addr) (n cap : Nat) (left : Int) (w : World) (hn : left < (n : Int)) (h0 : 0 ≤ left) (hl : left ≤ 1048576) (hm : n ≤ maxLen) :
    Calls Tryz.prog 25 #[.slice A n cap, .int .i64 left] w fun e w' => e = .returned (.int .i64 (-1)) ∧ w = w' := by
  unfold maxLen at hm
  go_enter Tryz.func25, Tryz.ntmps25
  go_wp2
  go_ret
  exact ⟨rfl, rfl⟩

theorem info_Pair : (Tryz.prog.info? 106).map (fun i => (i.zero, i.size, i.bytes)) = some (some (.agg #[.int .i64 0, .int .i64 0]), 2, 16) := by kernel_rfl

set_option maxHeartbeats 1600000 in
theorem toPairS_any (A : Option Addr) (n cap : Nat) (zs : List Int) (w : World) (hS : Sl w 2 A n zs) (hn : n ≤ 1048576) :
    Calls Tryz.prog 36 #[.slice A n cap] w (RetRow w 106 2 n zs) := by
  have hmk := fun W => make_flat (P := Tryz.prog) 33 106 (.agg #[.int .i64 0, .int .i64 0]) 2 16 Tryz.underlying33 info_Pair (by decide) n hn W
  have HS := Lib.hid hS
  clear hS
  go_enter Tryz.func36, Tryz.ntmps36
  go_wp2
  clear hmk
  go_loopw [4] (fun i wr => ∃ (k : Nat) (cs : Array Value), k ≤ n ∧ i = .int .i64 k ∧ Below w.heap.size w wr ∧ Blk wr w.heap.size 106 cs ∧ Hid (cs.size = n * 2) ∧ Hid (∀ j, j < k * 2 → cs[j]? = some (.int .i64 (zs.getD j 0)))) (fun i _ => n - (intOf i).toNat)
  case atStart => exact ⟨0, _, Nat.zero_le _, rfl, (Below.refl _ _).alloc (Nat.le_refl _) _, Blk.new _ _ _, by simp [size_madeCells, Hid], fun j hj => absurd hj (by omega)⟩
  case round =>
    obtain ⟨k, cs, hk, rfl, hbl, hblk, hcs, hall⟩ := hrel
    by_cases hlt : k < n
    · obtain ⟨b, off, rfl, hb, hcell⟩ := HS.out.at_ (by omega)
      have h0 := hcell (k * 2) (by omega)
      have h1 := hcell (k * 2 + 1) (by omega)
      rw [← hbl.cell (by exact hb)] at h0 h1
      simp only [← Nat.add_assoc] at h0 h1
      clear hcell
      generalize hx0 : zs.getD (k * 2) 0 = x0 at h0
      generalize hx1 : zs.getD (k * 2 + 1) 0 = x1 at h1
      have HX := Lib.hid (And.intro hx0 hx1)
      clear hx0 hx1
      have hg := hblk.lt
      have hbr : b < wr.heap.size := Nat.lt_of_lt_of_le hb hbl.size
      obtain ⟨c0, g0⟩ := hblk.has (i := k * 2) (by have := hcs.out; omega)
      obtain ⟨c1, g1⟩ := hblk.has (i := k * 2 + 1) (by have := hcs.out; omega)
      have f0 := hblk.frozen (k * 2)
      have f1 := hblk.frozen (k * 2 + 1)
      go_wp2_with ((go_at_call 72; refine (toPair_any _ _ _).mono ?_; rintro e w1 ⟨rfl, hb'⟩; (first | (have hb2 := bstep hb' hb hb.size; clear hb' hcb hfb hz1 hz2 hz3 hz4 hb; have hb := hb2; clear hb2) | (have hb := hb'; clear hb')); obtain ⟨hcb, hfb, hz1, hz2, hz3, hz4⟩ := bcell hb; (try simp only [World.size_alloc, World.size_setCell, World.size_drew, Nat.lt_add_one_iff, Nat.add_assoc, Nat.reduceAdd] at hz1 hz2 hz3 hz4)))
      refine ⟨⟨k + 1, _, by omega, by go_num, (((bstep hb hbl hbl.size).setCell (by simp) _).setCell (by simp) _), (((hblk.below hb).set_ _ _).set_ _ _), ?_, ?_⟩, by simp [intOf]; omega⟩
      · show Array.size _ = _
        simp only [Array.size_setIfInBounds]
        exact hcs.out
      · intro j hj
        have hcsz := hcs.out
        have hxy := HX.out
        simp only [Array.getElem?_setIfInBounds, Array.size_setIfInBounds]
        rcases (by omega : j < k * 2 ∨ j = k * 2 ∨ j = k * 2 + 1) with h | h | h
        · rw [if_neg (by omega), if_neg (by omega)]
          exact hall.out j h
        · rw [if_neg (by omega), if_pos (by omega), if_pos (by omega), h, hxy.1]
        · rw [if_pos (by omega), if_pos (by omega), h, hxy.2]
    · have hkn : k = n := by omega
      subst hkn
      go_wp2
      go_ret
      exact RetRow.mk (hblk.row (Nat.le_refl _) (by simp [maxLen]; omega) hcs.out HS.out.len (by simpa using hall.out)) hbl

set_option maxHeartbeats 1600000 in
theorem eqPairS_any (A B : Option Addr) (n m cap cap' : Nat) (zs ys : List Int) (w : World) (hS : Sl w 2 A n zs) (hT : Sl w 2 B m ys) (hn : n ≤ maxLen) (hm : m ≤ maxLen) :
    Calls Tryz.prog 44 #[.slice A n cap, .slice B m cap'] w fun e w' => e = .returned (.bool (eqL zs ys)) ∧ Below w.heap.size w w' := by
  unfold maxLen at hn hm
  by_cases hnm : n = m
  · subst hnm
    have HS := Lib.hid hS
    have HT := Lib.hid hT
    clear hS hT
    go_enter Tryz.func44, Tryz.ntmps44
    go_wp2
    go_loopw [5] (fun i wr => ∃ (k : Nat), k ≤ n ∧ i = .int .i64 k ∧ Below w.heap.size w wr ∧ Hid (∀ j, j < k * 2 → zs.getD j 0 = ys.getD j 0)) (fun i _ => n - (intOf i).toNat)
    case atStart => exact ⟨0, Nat.zero_le _, rfl, Below.refl _ _, fun j hj => absurd hj (by omega)⟩
    case round =>
      obtain ⟨k, hk, rfl, hbl, hall⟩ := hrel
      by_cases hlt : k < n
      · obtain ⟨b, off, rfl, hb, hcell⟩ := HS.out.at_ (by omega)
        obtain ⟨b', off', rfl, hb', hcell'⟩ := HT.out.at_ (by omega)
        have h0 := hcell (k * 2) (by omega)
        have h1 := hcell (k * 2 + 1) (by omega)
        have p0 := hcell' (k * 2) (by omega)
        have p1 := hcell' (k * 2 + 1) (by omega)
        rw [← hbl.cell (by exact hb)] at h0 h1
        rw [← hbl.cell (by exact hb')] at p0 p1
        simp only [← Nat.add_assoc] at h0 h1 p0 p1
        clear hcell hcell'
        generalize hx0 : zs.getD (k * 2) 0 = x0 at h0
        generalize hx1 : zs.getD (k * 2 + 1) 0 = x1 at h1
        generalize hy0 : ys.getD (k * 2) 0 = y0 at p0
        generalize hy1 : ys.getD (k * 2 + 1) 0 = y1 at p1
        have HX := Lib.hid (And.intro (And.intro hx0 hx1) (And.intro hy0 hy1))
        clear hx0 hy0 hx1 hy1
        have hbr : b < wr.heap.size := Nat.lt_of_lt_of_le hb hbl.size
        have hbr' : b' < wr.heap.size := Nat.lt_of_lt_of_le hb' hbl.size
        rcases Bool.eq_false_or_eq_true (eqL [x0, x1] [y0, y1]) with hq | hq
        · go_wp2
          ((refine wp_region_ext (by kernel_rfl) (by kernel_rfl) ?_); (repeat (any_goals (first | go_big_quiet_step ((go_at_call 83; exact quiet_ext (eqPair_any _ _ _ _ _))) | (refine wpQuiet_step (fun K hK => ?_); go_simp; split <;> (refine hK _ ?_; clear hK K)) | quiet_step ((go_at_call 83; exact quiet_ext (eqPair_any _ _ _ _ _)))))); (all_goals (refine wpQuiet_nil ?_; rintro _ ⟨z, rfl⟩; have hb' := z.h; generalize z.w = w1 at hb' ⊢; clear z; (first | (have hb2 := bstep hb' hb hb.size; clear hb' hcb hfb hz1 hz2 hz3 hz4 hb; have hb := hb2; clear hb2) | (have hb := hb'; clear hb')); obtain ⟨hcb, hfb, hz1, hz2, hz3, hz4⟩ := bcell hb; (try simp only [World.size_alloc, World.size_setCell, World.size_drew, Nat.lt_add_one_iff, Nat.add_assoc, Nat.reduceAdd] at hz1 hz2 hz3 hz4))))
          go_wp2
          refine ⟨⟨k + 1, by omega, by go_num, bstep hb hbl hbl.size, ?_⟩, by simp [intOf]; omega⟩
          intro j hj
          have hxy := HX.out
          have he := eqL_true hq
          simp only [List.cons.injEq, and_true] at he
          rcases (by omega : j < k * 2 ∨ j = k * 2 ∨ j = k * 2 + 1) with h | h | h
          · exact hall.out j h
          · rw [h, hxy.1.1, hxy.2.1, he.1]
          · rw [h, hxy.1.2, hxy.2.2, he.2]
        · go_wp2
          ((refine wp_region_ext (by kernel_rfl) (by kernel_rfl) ?_); (repeat (any_goals (first | go_big_quiet_step ((go_at_call 83; exact quiet_ext (eqPair_any _ _ _ _ _))) | (refine wpQuiet_step (fun K hK => ?_); go_simp; split <;> (refine hK _ ?_; clear hK K)) | quiet_step ((go_at_call 83; exact quiet_ext (eqPair_any _ _ _ _ _)))))); (all_goals (refine wpQuiet_nil ?_; rintro _ ⟨z, rfl⟩; have hb' := z.h; generalize z.w = w1 at hb' ⊢; clear z; (first | (have hb2 := bstep hb' hb hb.size; clear hb' hcb hfb hz1 hz2 hz3 hz4 hb; have hb := hb2; clear hb2) | (have hb := hb'; clear hb')); obtain ⟨hcb, hfb, hz1, hz2, hz3, hz4⟩ := bcell hb; (try simp only [World.size_alloc, World.size_setCell, World.size_drew, Nat.lt_add_one_iff, Nat.add_assoc, Nat.reduceAdd] at hz1 hz2 hz3 hz4))))
          go_wp2
          go_ret
          refine ⟨ret_bool (eqL_ne ?_).symm, bstep hb hbl hbl.size⟩
          rintro rfl
          have hxy := HX.out
          exact eqL_false (by rw [hq]; decide) (by simp only [List.cons.injEq, and_true]; exact ⟨hxy.1.1.symm.trans hxy.2.1, hxy.1.2.symm.trans hxy.2.2⟩)
      · have hkn : k = n := by omega
        subst hkn
        go_wp2
        go_ret
        have hzy : zs = ys := list_ext_getD (by rw [HS.out.len, HT.out.len]) (fun j hj => hall.out j (by rw [HS.out.len] at hj; omega))
        exact ⟨ret_bool (by rw [hzy]; exact (eqL_self _).symm), hbl⟩
  · have hne : ¬ (n : Int) = (m : Int) := by omega
    have hz : eqL zs ys = false := by
      refine eqL_ne ?_
      rintro rfl
      have h1 := hS.len
      have h2 := hT.len
      omega
    rw [hz]
    clear hz hS hT
    go_enter Tryz.func44, Tryz.ntmps44
    go_wp2
    go_ret
    exact ⟨rfl, Below.refl _ _⟩


set_option maxHeartbeats 1600000 in
theorem markPairS_any (lo : Nat) (A : Option Addr) (n cap : Nat) (zs : List Int) (k0 : Int) (w : World) (hR : Row w lo 106 2 A n cap zs) (hn : n ≤ 1048576) (hk0 : 0 ≤ k0) (hk1 : k0 ≤ 1073741824) :
    Calls Tryz.prog 47 #[.slice A n cap, .int .i64 k0] w (RetMark w lo 106 2 A n cap k0) := by
  by_cases hz : n = 0
  · subst hz
    have hR' : Row w lo 106 2 A 0 cap (marks k0 (0 * 2)) := by
      have hl := hR.len
      have : zs = [] := List.eq_nil_of_length_eq_zero (by omega)
      subst this
      exact hR
    have HR := Lib.hid hR'
    clear hR hR'
    go_enter Tryz.func47, Tryz.ntmps47
    go_wp2
    go_loop [1, 5] (fun q i => i = .int .i64 0 ∧ q = .int .i64 k0) (fun _ _ => 0)
    case atStart => exact ⟨rfl, rfl⟩
    case round =>
      obtain ⟨rfl, rfl⟩ := hrel
      go_wp2
      go_ret
      exact RetMark.mk (by simp) HR.out (World.grownBy.refl _ _)
  · obtain ⟨g, cs, rfl, hlo, hblk, hnc, hcm, hcs, _⟩ := hR.blk (by omega)
    have HC := Lib.hid (And.intro hcs (And.intro hnc hcm))
    clear hR hcs hcm hz
    have hnc' : (n : Int) ≤ (cap : Int) := by omega
    go_enter Tryz.func47, Tryz.ntmps47
    go_wp2
    go_loopw [1, 5] (fun q i wr => ∃ (k : Nat) (cs : Array Value), k ≤ n ∧ i = .int .i64 k ∧ q = .int .i64 (k0 + (k * 2 : Nat)) ∧ Hid (Wrote w wr (some ⟨g, 0, none⟩)) ∧ Blk wr g 106 cs ∧ Hid (cs.size = cap * 2) ∧ Hid (∀ j, j < k * 2 → cs[j]? = some (.int .i64 (k0 + (j : Int))))) (fun _ i _ => n - (intOf i).toNat)
    case atStart => exact ⟨0, cs, Nat.zero_le _, rfl, by simp, World.grownBy.refl _ _, hblk, HC.out.1, fun j hj => absurd hj (by omega)⟩
    case round =>
      obtain ⟨k, cs', hk, rfl, rfl, hwr, hblk', hcs', hall⟩ := hrel
      by_cases hlt : k < n
      · have _hg := hlt
        obtain ⟨c0, g0⟩ := hblk'.has (i := k * 2) (by have := hcs'.out; have := HC.out.2.1; omega)
        obtain ⟨c1, g1⟩ := hblk'.has (i := k * 2 + 1) (by have := hcs'.out; have := HC.out.2.1; omega)
        have f0 := hblk'.frozen (k * 2)
        have f1 := hblk'.frozen (k * 2 + 1)
        go_wp2
        refine ⟨⟨k + 1, _, by omega, by go_num, congrArg (Value.int .i64) (by omega), ?_, ((hblk'.set_ _ _).set_ _ _), ?_, ?_⟩, by simp [intOf]; omega⟩
        · exact (wrote_set (p := ⟨g, k * 2 + 1, none⟩) (wrote_set (p := ⟨g, k * 2, none⟩) hwr.out rfl _) rfl _)
        · show Array.size _ = _
          simp only [Array.size_setIfInBounds]
          exact hcs'.out
        · intro j hj
          have hcsz := hcs'.out
          have hnc := HC.out.2.1
          simp only [Array.getElem?_setIfInBounds, Array.size_setIfInBounds]
          rcases (by omega : j < k * 2 ∨ j = k * 2 ∨ j = k * 2 + 1) with h | h | h
          · rw [if_neg (by omega), if_neg (by omega)]
            exact hall.out j h
          · rw [if_neg (by omega), if_pos (by omega), if_pos (by omega), h]
            try exact congrArg (fun z => some (Value.int .i64 z)) (by omega)
          · rw [if_pos (by omega), if_pos (by omega), h]
            try exact congrArg (fun z => some (Value.int .i64 z)) (by omega)
      · have hkn : k = n := by omega
        subst hkn
        go_wp2
        go_ret
        refine RetMark.mk (by omega) (Row.of_blk hblk' hlo HC.out.2.1 HC.out.2.2 hcs'.out (marks_length _ _) (fun j hj => ?_)) hwr.out
        rw [marks_getD _ _ _ hj]
        exact hall.out j (by omega)

set_option maxHeartbeats 1600000 in
theorem heldPairS_any (A : Option Addr) (n cap : Nat) (k0 : Int) (w : World) (hS : Sl w 2 A n (marks k0 (n * 2))) (hn : n ≤ 1048576) (hk0 : 0 ≤ k0) (hk1 : k0 ≤ 1073741824) :
    Calls Tryz.prog 49 #[.slice A n cap, .int .i64 k0] w fun e w' => e = .returned (.int .i64 (k0 + (n * 2 : Nat))) ∧ w = w' := by
  have HS := Lib.hid hS
  clear hS
  go_enter Tryz.func49, Tryz.ntmps49
  go_wp2
  go_loop [1, 5] (fun q i => ∃ (k : Nat), k ≤ n ∧ i = .int .i64 k ∧ q = .int .i64 (k0 + (k * 2 : Nat))) (fun _ i => n - (intOf i).toNat)
  case atStart => exact ⟨0, Nat.zero_le _, rfl, by simp⟩
  case round =>
    obtain ⟨k, hk, rfl, rfl⟩ := hrel
    by_cases hlt : k < n
    · obtain ⟨b, off, rfl, hb, hcell⟩ := HS.out.at_ (by omega)
      have h0 := hcell (k * 2) (by omega)
      have h1 := hcell (k * 2 + 1) (by omega)
      rw [marks_getD _ _ _ (by omega)] at h0 h1
      simp only [← Nat.add_assoc] at h0 h1
      clear hcell
      go_wp2
      exact ⟨⟨k + 1, by omega, by go_num, congrArg (Value.int .i64) (by omega)⟩, by simp [intOf]; omega⟩
    · have hkn : k = n := by omega
      subst hkn
      go_wp2
      go_ret
      exact ⟨ret_int (by omega), rfl⟩
end Go.Proofs.YtokklkmibjpjnaaGreat
namespace Go.Proofs.YtokklkmibjpjnaaGreat
set_option linter.unusedSimpArgs false
set_option linter.unusedVariables false
attribute [local go_sem] n_lt2 n_lt3 n_lt4 n_le2 n_le3
open Go.RowKit

def RetRowB (w : World) (E s n : Nat) (zs : List Int) (b : Bool) (e : Ending) (w' : World) : Prop := ∃ A cap, e = .returned (.tuple #[.slice A n cap, .bool b]) ∧ Row w' w.heap.size E s A n cap zs ∧ Below w.heap.size w w'
theorem row0p {w : World} {g lo : Nat} {E : TypeId} {s : Nat} (h : Blk w g E #[]) (hlo : lo ≤ g) : Row w lo E s (some ⟨g, 0, none⟩) 0 0 [] :=
  h.row hlo (by simp [maxLen]) (by simp) (by simp) (fun j hj => absurd hj (by omega))
theorem sl_news {w : World} {A : Option Addr} {n s : Nat} {zs : List Int} {ad : Addr} (h : Sl w s A n zs) (hA : A = some ad) : ∀ j u, (ints zs)[j]? = some u → w.cell? (ad.add j) = some u := fun j u hu => by
  have hj : j < zs.length := by
    rcases Nat.lt_or_ge j zs.length with h1 | h1
    · exact h1
    · rw [List.getElem?_eq_none (by rw [ints_length]; exact h1)] at hu
      cases hu
  have hlen := h.len
  have hn : 0 < n := by
    rcases Nat.eq_zero_or_pos n with h0 | h0
    · subst h0; omega
    · exact h0
  obtain ⟨b, off, hb, _, hc⟩ := h.at_ hn
  rw [hA] at hb
  obtain rfl := Option.some.inj hb
  have hadd : (⟨b, off, none⟩ : Addr).add j = ⟨b, off + j, none⟩ := by unfold Addr.add; split <;> simp_all
  rw [hadd, hc j (by omega), ← hu]
  exact (ints_get zs j hj).symm
def cutL (l : List Pr) (key : Int) : List Pr := l.filter (fun p => !decide (p.k = key))
theorem cutL_take {l : List Pr} {k : Nat} {key : Int} (h : k < l.length) : cutL (l.take (k + 1)) key = cutL (l.take k) key ++ (if (l.getD k default).k = key then [] else [l.getD k default]) := by
  unfold cutL
  rw [List.take_add_one, List.filter_append]
  congr 1
  simp only [List.getElem?_eq_getElem h, Option.toList_some, List.getD, Option.getD_some]
  by_cases hk : l[k].k = key <;> simp [hk]
theorem cutL_le (l : List Pr) (key : Int) : (cutL l key).length ≤ l.length := List.length_filter_le _ _
attribute [local go_sem] Ext.cell Ext.frozen

set_option maxRecDepth 100000 in
set_option maxHeartbeats 800000 in
theorem copyPairs_any (A : Option Addr) (n cap : Nat) (l : List Pr) (w : World) (hS : Sl w 2 A n (PR l)) (hl : l.length = n) (hn : n ≤ 1000) (hA : A = none → n = 0 ∧ cap = 0) :
    Calls Tryz.prog 80 #[.slice A n cap] w (RetRow w 106 2 n (PR l)) := by
  have R0 : Row (w.alloc (.cells #[] 106)) w.heap.size 106 2 (some ⟨w.heap.size, 0, none⟩) 0 0 [] := row0p (Blk.new w _ _) (Nat.le_refl _)
  have hnw := fun ad (h : A = some ad) => sl_news (hS.below ((Below.refl w.heap.size w).alloc (Nat.le_refl _) (.cells #[] 106))) h
  have hPl : (PR l).length = n * 2 := by rw [PR_len, hl]
  cases A with
  | none =>
    obtain ⟨rfl, rfl⟩ := hA rfl
    have hz : PR l = [] := List.eq_nil_of_length_eq_zero (by omega)
    rw [hz]
    obtain ⟨i0, hi0, hz0, hs0, hy0⟩ := info_parts info_Pair
    clear hnw hS hA hPl
    go_enter Tryz.func80, Tryz.ntmps80
    go_wp2_with (at_builtin; refine wpList_append_own_none rfl _ _ 33 rfl w.heap.size 106 i0 2 Tryz.underlying33 hi0 (.slice (some ⟨w.heap.size, 0, none⟩) 0 0) 0 [] rfl R0 rfl ?_)
    go_ret
    exact RetRow.mk R0 (by (repeat' (first | (with_reducible exact Below.refl _ _) | (with_reducible assumption) | (with_reducible refine Below.alloc ?_ ?_ _) | (with_reducible refine Below.drew ?_) | (with_reducible refine Below.setCell ?_ ?_ _) | (with_reducible refine bstep (by assumption) ?_ ?_) | (with_reducible exact Nat.le_refl _) | omega | (simp [*]; done) | (simp [*]; omega))))
  | some ad =>
    have hnw' := Lib.hid (hnw ad rfl)
    clear hnw hS hA
    go_enter Tryz.func80, Tryz.ntmps80
    go_wp2_with (at_builtin; refine wpList_append_row rfl _ _ 33 rfl 106 (.agg #[.int .i64 0, .int .i64 0]) 2 16 Tryz.underlying33 info_Pair (by first | kernel_rfl | simp [Value.cells]) (by decide) w.heap.size (some ⟨w.heap.size, 0, none⟩) 0 0 [] rfl R0 ad n cap (PR l) rfl hPl hnw'.out (by unfold maxLen; omega) (by omega) (by simp) ?_; intro A5 c5 w5 R5 B5)
    go_ret
    simp only [Nat.zero_add, List.nil_append] at R5 ⊢
    exact RetRow.mk R5 (((Below.refl w.heap.size w).alloc (Nat.le_refl _) _).trans B5)
set_option maxRecDepth 100000 in
set_option maxHeartbeats 2000000 in
theorem specCutOut_any (A : Option Addr) (n cap : Nat) (l : List Pr) (key : Int) (w : World) (hS : Sl w 2 A n (PR l)) (hl : l.length = n) (hn : n ≤ maxLen) :
    Calls Tryz.prog 30 #[.slice A n cap, .int .i64 key] w (if pairsB l = true then RetRowB w 106 2 (cutL l key).length (PR (cutL l key)) (decide ((cutL l key).length < n)) else RetRowB w 106 2 0 [] false) := by
  have c1 := specPairsOk_any A n cap l w hS hl hn
  by_cases hpa : pairsB l = true
  · have h10 : n ≤ 10 := by have := pairsB_len hpa; omega
    rw [if_pos hpa]
    rw [hpa] at c1
    have hL := Lib.hid hl
    have HS := Lib.hid hS
    clear hpa hl hS
    unfold maxLen at hn
    go_enter Tryz.func30, Tryz.ntmps30
    go_wp2_with fail
    refine c1.mono ?_
    rintro e w1 ⟨rfl, b1⟩
    go_wp2
    go_loopw [6, 7] (fun o i wr => ∃ k A0 n0 c0 zs, k ≤ n ∧ n0 ≤ k ∧ i = .int .i64 (k : Nat) ∧ o = .slice A0 n0 c0 ∧ Row wr w.heap.size 106 2 A0 n0 c0 zs ∧ Hid (zs = PR (cutL (l.take k) key)) ∧ Below w.heap.size w wr) (fun _ i _ => n - (intOf i).toNat)
    case atStart => exact ⟨0, _, _, _, _, by omega, Nat.le_refl _, rfl, rfl, row0p (Blk.new w1 _ _) b1.size, Lib.hid rfl, b1.alloc b1.size _⟩
    case round =>
      obtain ⟨k, A0, n0, c0, zs, hk, hn0, rfl, rfl, R, hz, hbl⟩ := hrel
      by_cases hlt : k < n
      · obtain ⟨b, off, rfl, hb, hcell⟩ := sl_pairs HS.out (by omega)
        have h0 := (hcell k hlt).1
        have h1 := (hcell k hlt).2
        clear hcell
        rw [← hbl.cell (by exact hb)] at h0 h1
        generalize hp : l.getD k default = p at h0 h1
        obtain ⟨x, y⟩ := p
        simp only at h0 h1
        have HP := Lib.hid hp
        clear hp
        have hbr : b < wr.heap.size := Nat.lt_of_lt_of_le hb hbl.size
        by_cases hx : x = key
        · subst hx
          have HE := Lib.hid (show PR (cutL (l.take (k + 1)) x) = PR (cutL (l.take k) x) by rw [cutL_take (hL.out.symm ▸ hlt), HP.out, if_pos rfl, List.append_nil])
          go_wp2
          exact ⟨⟨k + 1, A0, n0, c0, zs, by omega, by omega, by go_num, rfl, R, Lib.hid (by rw [HE.out, hz.out]), hbl⟩, by simp [intOf]; omega⟩
        · have hx' : (x == key) = false := by simpa using hx
          have HE := Lib.hid (show PR (cutL (l.take (k + 1)) key) = PR (cutL (l.take k) key) ++ [x, y] by rw [cutL_take (hL.out.symm ▸ hlt), HP.out, if_neg hx, PR_append]; rfl)
          go_wp2_with (at_builtin; refine wpList_append_row rfl _ _ 33 rfl 106 (.agg #[.int .i64 0, .int .i64 0]) 2 16 Tryz.underlying33 info_Pair (by first | kernel_rfl | simp [Value.cells]) (by decide) w.heap.size A0 n0 c0 zs rfl (World.ownsRow.alloc R _) ⟨wr.heap.size, 0, none⟩ 1 1 [x, y] rfl rfl (cell_two_new _ _ _ _) (by unfold maxLen; omega) (by omega) (by have := hbl.size; simp; omega) ?_; intro A5 c5 w5 R5 B5)
          exact ⟨⟨k + 1, A5, _, c5, _, by omega, by omega, by go_num, rfl, R5, Lib.hid (by rw [HE.out, hz.out]), (hbl.alloc hbl.size _).trans B5⟩, by simp [intOf]; omega⟩
      · have hkn : k = n := by omega
        subst hkn
        have hzz := hz.out
        rw [List.take_of_length_le (by have := hL.out; omega)] at hzz
        have hnn : n0 = (cutL l key).length := by
          have := R.len
          rw [hzz, PR_len] at this
          omega
        have HN := Lib.hid hnn
        clear hnn
        go_wp2
        refine bodyPost_ret (v := .tuple #[.slice A0 n0 c0, .bool (decide ((n0 : Int) < (k : Int)))]) (by simp [results, Tryz.results30, go_sem, *]) rfl ⟨A0, c0, ?_, ?_, hbl⟩
        · rw [← HN.out]; simp
        · rw [← HN.out, ← hzz]; exact R
  · have hpa' : pairsB l = false := by simpa using hpa
    rw [if_neg hpa]
    rw [hpa'] at c1
    go_enter Tryz.func30, Tryz.ntmps30
    go_wp2_with fail
    refine c1.mono ?_
    rintro e w1 ⟨rfl, b1⟩
    go_wp2
    refine bodyPost_ret (v := .tuple #[.slice (some ⟨w1.heap.size, 0, none⟩) 0 0, .bool false]) (by simp [results, Tryz.results30, go_sem, *]) rfl ⟨_, _, rfl, row0p (Blk.new w1 _ _) b1.size, b1.alloc b1.size _⟩
end Go.Proofs.YtokklkmibjpjnaaGreat
namespace Go.Proofs.YtokklkmibjpjnaaGreat
set_option linter.unusedSimpArgs false
set_option linter.unusedVariables false
attribute [local go_sem] n_lt2 n_lt3 n_lt4 n_le2 n_le3
open Go.RowKit
theorem JB_inj {a b : List Jb} (h : JB a = JB b) : a = b := by
  have hl : a.length = b.length := by
    have := congrArg List.length h
    rw [JB_len, JB_len] at this
    omega
  apply List.ext_getElem hl
  intro i h1 h2
  have e : ∀ j, j < 5 → _ := fun j hj => JB_get a i j h1 hj
  have e' : ∀ j, j < 5 → _ := fun j hj => JB_get b i j h2 hj
  rw [h] at e
  have e0 := (e 0 (by decide)).symm.trans (e' 0 (by decide))
  have e1 := (e 1 (by decide)).symm.trans (e' 1 (by decide))
  have e2 := (e 2 (by decide)).symm.trans (e' 2 (by decide))
  have e3 := (e 3 (by decide)).symm.trans (e' 3 (by decide))
  have e4 := (e 4 (by decide)).symm.trans (e' 4 (by decide))
  have ga : a.getD i default = a[i] := by simp [List.getD, h1]
  have gb : b.getD i default = b[i] := by simp [List.getD, h2]
  rw [ga, gb] at e0 e1 e2 e3 e4
  cases ha : a[i]; cases hb : b[i]
  rw [ha, hb] at e0 e1 e2 e3 e4
  simp only [List.getD_cons_zero, List.getD_cons_succ] at e0 e1 e2 e3 e4
  rw [e0, e1, e2, e3, e4]
theorem rowj_get {a : Int} {l : List Jb} {k q t : Nat} (hq : q = 1 + 5 * k) (h : k < l.length) (ht : t < 5) : (a :: JB l).getD (q + t) 0 = [(l.getD k default).i, (l.getD k default).d, (l.getD k default).k, (l.getD k default).v, (l.getD k default).f].getD t 0 := by
  subst hq
  rw [show 1 + 5 * k + t = (k * 5 + t) + 1 by omega, List.getD_cons_succ, JB_get l k t h ht]
theorem jobsB_len {l : List Jb} (h : jobsB l = true) : l.length ≤ 10 := Nat.le_trans (jobsB_all h).1 (by decide)
def rowGoodJ (a : Int) (l : List Jb) : Bool := decide (a = (l.length : Int)) && jobsB l
def rowSelJ (a : Int) (l : List Jb) : List Jb := if rowGoodJ a l = true then l else []
attribute [local go_sem] Ext.cell Ext.frozen

end Go.Proofs.YtokklkmibjpjnaaGreat
namespace Go.Proofs.YtokklkmibjpjnaaGreat
set_option linter.unusedSimpArgs false
set_option linter.unusedVariables false
attribute [local go_sem] n_lt2 n_lt3 n_lt4 n_le2 n_le3
open Go.RowKit

theorem jobAtB_lt {l : List Jb} {i : Nat} (h : jobAtB l i = true) (hi : 0 < i) : (l.getD (i - 1) default).i < (l.getD i default).i := by
  unfold jobAtB at h
  simp only [Bool.and_eq_true, Bool.or_eq_true, decide_eq_true_eq] at h
  rcases h.2.1 with h0 | h0
  · omega
  · exact h0
theorem jobAtB_ok {l : List Jb} {i : Nat} (h : jobAtB l i = true) : jobOkB (l.getD i default) = true := by
  unfold jobAtB at h
  simp only [Bool.and_eq_true] at h
  exact h.1
theorem jobs_up {l : List Jb} (h : jobsB l = true) : ∀ d i, i + d + 1 < l.length → (l.getD i default).i < (l.getD (i + d + 1) default).i
  | 0, i, hi => by
    have := jobAtB_lt ((jobsB_all h).2 (i + 1) (by omega)) (by omega)
    simpa using this
  | d + 1, i, hi => by
    have h1 := jobs_up h d i (by omega)
    have h2 := jobs_up h 0 (i + d + 1) (by omega)
    exact Int.lt_trans h1 h2
theorem jobs_lt {l : List Jb} (h : jobsB l = true) : l.Pairwise (fun p q => p.i < q.i) := by
  rw [List.pairwise_iff_getElem]
  intro i j hi hj hij
  have := jobs_up h (j - i - 1) i (by omega)
  rw [show i + (j - i - 1) + 1 = j by omega] at this
  simpa only [List.getD, List.getElem?_eq_getElem hi, List.getElem?_eq_getElem hj, Option.getD_some] using this
theorem jobs_rng {l : List Jb} (h : jobsB l = true) : ∀ p ∈ l, 1 ≤ p.i ∧ p.i ≤ 20 := fun p hp => by
  obtain ⟨i, hi, rfl⟩ := List.getElem_of_mem hp
  have := jobAtB_ok ((jobsB_all h).2 i hi)
  simp only [List.getD, List.getElem?_eq_getElem hi, Option.getD_some, jobOkB, jobB, Bool.and_eq_true, inB_iff] at this
  exact this.1
theorem jobIx_at {l : List Jb} {key : Int} {k : Nat} (h : jobsB l = true) (hk : k < l.length) (he : (l.getD k default).i = key) : jobIx l key = k :=
  jobIx_some hk (fun j hj he' => by
    have := jobs_up h (k - j - 1) j (by omega)
    rw [show j + (k - j - 1) + 1 = k by omega] at this
    omega) he
theorem jobIx_hit {l : List Jb} {key : Int} (h : jobIx l key < l.length) : (l.getD (jobIx l key) default).i = key := by
  have := List.findIdx_getElem (p := fun p : Jb => decide (p.i = key)) (w := h)
  simp only [decide_eq_true_eq] at this
  simp only [List.getD, List.getElem?_eq_getElem h, Option.getD_some]
  exact this
theorem firIx_hit {l : List Jb} {x : Int} (h : l.findIdx (fun p => decide (p.f = x)) < l.length) : firedBefore l l.length x = true := by
  have := List.findIdx_getElem (p := fun p : Jb => decide (p.f = x)) (w := h)
  simp only [decide_eq_true_eq] at this
  exact firedBefore_true h (by simp only [List.getD, List.getElem?_eq_getElem h, Option.getD_some]; exact this)
theorem firIx_miss {l : List Jb} {x : Int} (h : ¬ l.findIdx (fun p => decide (p.f = x)) < l.length) : firedBefore l l.length x = false := by
  refine firedBefore_false (fun j hj he => h ?_)
  refine List.findIdx_lt_length_of_exists ⟨l[j], List.getElem_mem hj, ?_⟩
  simp only [List.getD, List.getElem?_eq_getElem hj, Option.getD_some] at he
  simpa using he

def lookJ (l : List Jb) (key : Int) : Option Jb := l.find? (fun p => decide (p.i = key))
theorem lookJ_cons (p : Jb) (l : List Jb) (key : Int) : lookJ (p :: l) key = if p.i = key then some p else lookJ l key := by
  unfold lookJ
  rw [List.find?_cons]
  by_cases h : p.i = key <;> simp [h]
theorem lookJ_key {l : List Jb} {key : Int} {p : Jb} (h : lookJ l key = some p) : p.i = key ∧ p ∈ l := by
  unfold lookJ at h
  exact ⟨by simpa using List.find?_some h, List.mem_of_find?_eq_some h⟩
theorem lookJ_none {l : List Jb} {key : Int} (h : ∀ p ∈ l, p.i ≠ key) : lookJ l key = none := by
  unfold lookJ
  rw [List.find?_eq_none]
  intro p hp
  simpa using h p hp
theorem jobAtV_look (l : List Jb) (key : Int) : jobAtV l key = match lookJ l key with | some p => (p, true) | none => (default, false) := by
  induction l with
  | nil => rfl
  | cons p l ih =>
    rw [lookJ_cons]
    by_cases h : p.i = key
    · have : jobIx (p :: l) key = 0 := by simp [jobIx, List.findIdx_cons, h]
      simp [jobAtV, this, h]
    · have h1 : jobIx (p :: l) key = jobIx l key + 1 := by simp [jobIx, List.findIdx_cons, h]
      rw [if_neg h, ← ih]
      simp [jobAtV, h1]
theorem jobAtV_there {l : List Jb} {key : Int} (h : (jobAtV l key).2 = false) : ∀ p ∈ l, p.i ≠ key := by
  intro p hp he
  unfold jobAtV at h
  rw [if_pos] at h
  · cases h
  · exact List.findIdx_lt_length_of_exists ⟨p, hp, by simpa using he⟩
theorem canonJ : ∀ (m : Nat) (a : Int) (l : List Jb), l.Pairwise (fun p q => p.i < q.i) → (∀ p ∈ l, a ≤ p.i ∧ p.i < a + m) → (List.range m).filterMap (fun j : Nat => lookJ l (a + j)) = l
  | 0, a, l, _, h => by
    match l with
    | [] => rfl
    | p :: l => have := h p (by simp); omega
  | m + 1, a, l, hs, h => by
    have hstep : ∀ t : List Jb, (List.range m).filterMap (fun j : Nat => lookJ t (a + (j + 1 : Nat))) = (List.range m).filterMap (fun j : Nat => lookJ t (a + 1 + j)) := fun t => by
      congr 1
      funext j
      congr 1
      omega
    rw [List.range_succ_eq_map, List.filterMap_cons, List.filterMap_map]
    rw [show ((fun j : Nat => lookJ l (a + j)) ∘ Nat.succ) = (fun j : Nat => lookJ l (a + (j + 1 : Nat))) from rfl]
    match l with
    | [] =>
      rw [lookJ_none (by simp), hstep]
      exact canonJ m (a + 1) [] List.Pairwise.nil (by simp)
    | p :: t =>
      rw [List.pairwise_cons] at hs
      by_cases hp : p.i = a
      · rw [lookJ_cons, if_pos (by omega)]
        simp only
        congr 1
        have e : ∀ j : Nat, lookJ (p :: t) (a + (j + 1 : Nat)) = lookJ t (a + 1 + j) := fun j => by
          rw [lookJ_cons, if_neg (by omega)]
          congr 1
          omega
        simp only [e]
        exact canonJ m (a + 1) t hs.2 (fun q hq => by
          have h1 := hs.1 q hq
          have h2 := h q (by simp [hq])
          omega)
      · have h0 := h p (by simp)
        rw [lookJ_none (fun q hq => by
          rcases List.mem_cons.1 hq with rfl | hq
          · omega
          · have := hs.1 q hq
            omega), hstep]
        exact canonJ m (a + 1) (p :: t) (List.pairwise_cons.2 hs) (fun q hq => by
          have h2 := h q hq
          rcases List.mem_cons.1 hq with rfl | hq
          · omega
          · have := hs.1 q hq
            omega)

/-- The job put at its place. -/
def addL : List Jb → Jb → List Jb
  | [], x => [x]
  | p :: t, x => if p.i < x.i then p :: addL t x else x :: p :: t
theorem addL_look (l : List Jb) (x : Jb) (k : Int) : lookJ (addL l x) k = if k = x.i then some x else lookJ l k := by
  induction l with
  | nil =>
    rw [addL, lookJ_cons]
    by_cases h : k = x.i
    · simp [h]
    · rw [if_neg (by simpa using Ne.symm h), if_neg h]
  | cons p t ih =>
    rw [addL]
    split
    · rename_i h1
      rw [lookJ_cons, ih, lookJ_cons]
      by_cases h : k = x.i
      · rw [if_neg (by omega), if_pos h, if_pos h]
      · rw [if_neg h, if_neg h]
    · rw [lookJ_cons]
      by_cases h : k = x.i
      · rw [if_pos h.symm, if_pos h]
      · rw [if_neg (by simpa using Ne.symm h), if_neg h]
theorem addL_mem {l : List Jb} {x q : Jb} (h : q ∈ addL l x) : q = x ∨ q ∈ l := by
  induction l with
  | nil => rw [addL] at h; simpa using h
  | cons p t ih =>
    rw [addL] at h
    split at h
    · rcases List.mem_cons.1 h with rfl | h
      · exact .inr (by simp)
      · rcases ih h with h | h
        · exact .inl h
        · exact .inr (by simp [h])
    · rcases List.mem_cons.1 h with rfl | h
      · exact .inl rfl
      · exact .inr h
theorem addL_lt {l : List Jb} {x : Jb} (h : l.Pairwise (fun p q => p.i < q.i)) (hx : ∀ p ∈ l, p.i ≠ x.i) : (addL l x).Pairwise (fun p q => p.i < q.i) := by
  induction l with
  | nil => simp [addL]
  | cons p t ih =>
    rw [List.pairwise_cons] at h
    have hp := hx p (by simp)
    rw [addL]
    split
    · rename_i h1
      rw [List.pairwise_cons]
      refine ⟨fun q hq => ?_, ih h.2 (fun q hq => hx q (by simp [hq]))⟩
      rcases addL_mem hq with rfl | hq
      · exact h1
      · exact h.1 q hq
    · rename_i h1
      rw [List.pairwise_cons, List.pairwise_cons]
      refine ⟨fun q hq => ?_, h⟩
      rcases List.mem_cons.1 hq with rfl | hq
      · omega
      · have := h.1 q hq; omega
theorem addL_len (l : List Jb) (x : Jb) : (addL l x).length = l.length + 1 := by
  induction l with
  | nil => simp [addL]
  | cons p t ih =>
    rw [addL]
    split
    · simp [ih]
    · simp
theorem addL_ins : ∀ (k : Nat) (l : List Jb) (x : Jb), k ≤ l.length → (∀ j, j < k → (l.getD j default).i < x.i) → (k < l.length → ¬ (l.getD k default).i < x.i) → addL l x = l.take k ++ x :: l.drop k
  | 0, [], x, _, _, _ => rfl
  | 0, p :: t, x, _, _, he => by
    have he' := he (by simp)
    simp only [List.getD_cons_zero] at he'
    rw [addL, if_neg he']
    rfl
  | k + 1, [], x, h, _, _ => by simp at h
  | k + 1, p :: t, x, h, hj, he => by
    have h0 := hj 0 (by omega)
    simp only [List.getD_cons_zero] at h0
    rw [addL, if_pos h0, addL_ins k t x (by simpa using h) (fun j hjk => by simpa using hj (j + 1) (by omega)) (fun h' => by simpa using he (by simpa using h'))]
    rfl
/-- What the reference lists. -/
def addG (l : List Jb) (x : Jb) (j : Nat) : Option Jb := if (j : Int) + 1 = x.i then some x else if (jobAtV l ((j : Int) + 1)).2 = true then some (jobAtV l ((j : Int) + 1)).1 else none
def addTo (l : List Jb) (x : Jb) (k : Nat) : List Jb := (List.range k).filterMap (addG l x)
theorem addTo_succ (l : List Jb) (x : Jb) (k : Nat) : addTo l x (k + 1) = addTo l x k ++ (addG l x k).toList := by
  unfold addTo
  rw [List.range_succ, List.filterMap_append]
  congr 1
theorem addTo_len (l : List Jb) (x : Jb) (k : Nat) : (addTo l x k).length ≤ k := by
  unfold addTo
  exact Nat.le_trans (List.length_filterMap_le _ _) (by simp)
theorem addG_look (l : List Jb) (x : Jb) (j : Nat) : addG l x j = lookJ (addL l x) (1 + (j : Int)) := by
  rw [addL_look, Int.add_comm 1 (j : Int)]
  unfold addG
  by_cases h : (j : Int) + 1 = x.i
  · rw [if_pos h, if_pos h]
  · rw [if_neg h, if_neg h, jobAtV_look]
    cases hl : lookJ l ((j : Int) + 1) with
    | none => simp
    | some p => simp
theorem addTo_all {l : List Jb} {x : Jb} (h : jobsB l = true) (hk : 1 ≤ x.i ∧ x.i ≤ 20) (hx : ∀ p ∈ l, p.i ≠ x.i) : addTo l x 20 = addL l x := by
  have e : addG l x = fun j : Nat => lookJ (addL l x) (1 + (j : Int)) := funext (addG_look l x)
  unfold addTo
  rw [e]
  refine canonJ 20 1 (addL l x) (addL_lt (jobs_lt h) hx) (fun p hp => ?_)
  rcases addL_mem hp with rfl | hp
  · omega
  · have := jobs_rng h p hp
    omega
def addOk (l : List Jb) (x : Jb) : Bool := jobOkB x && (decide (x.f = 0) && (!(jobAtV l x.i).2 && decide (l.length < 8)))
/-- JobAdded's two results. -/
def addR (l : List Jb) (x : Jb) : List Jb × Bool := if jobsB l = true then (if addOk l x = true then (addL l x, true) else (l, false)) else ([], false)
theorem addR_len (l : List Jb) (x : Jb) : (addR l x).1.length ≤ 9 := by
  unfold addR
  split
  · rename_i h
    have h1 := (jobsB_all h).1
    split
    · simp only [addL_len]; omega
    · simp only; omega
  · simp

/-- JobFired's two results. -/
def firedOk (l : List Jb) (id x : Int) : Bool := decide (jobIx l id < l.length) && (decide ((l.getD (jobIx l id) default).f = 0) && (inB x 1 2000 && !firedBefore l l.length x))
def firedSet (l : List Jb) (k : Nat) (x : Int) : List Jb := l.set k { (l.getD k default) with f := x }
def firedR (l : List Jb) (id x : Int) : List Jb × Bool := if jobsB l = true then (if firedOk l id x = true then (firedSet l (jobIx l id) x, true) else (l, false)) else ([], false)
theorem firedR_len (l : List Jb) (id x : Int) : (firedR l id x).1.length ≤ 9 := by
  unfold firedR
  split
  · rename_i h
    have h1 := (jobsB_all h).1
    split
    · simp only [firedSet, List.length_set]; omega
    · simp only; omega
  · simp
theorem JB_take' (l : List Jb) (k : Nat) : JB (l.take k) = (JB l).take (k * 5) := by
  induction l generalizing k with
  | nil => simp [JB]
  | cons p l ih =>
    cases k with
    | zero => simp [JB]
    | succ k =>
      have := ih k
      rw [List.take_succ_cons, show (k + 1) * 5 = k * 5 + 1 + 1 + 1 + 1 + 1 by omega]
      simp only [JB, List.flatMap_cons, List.cons_append, List.nil_append, List.take_succ_cons] at this ⊢
      rw [this]
theorem JB_drop' (l : List Jb) (k : Nat) : JB (l.drop k) = (JB l).drop (k * 5) := by
  induction l generalizing k with
  | nil => simp [JB]
  | cons p l ih =>
    cases k with
    | zero => simp [JB]
    | succ k =>
      have := ih k
      rw [List.drop_succ_cons, show (k + 1) * 5 = k * 5 + 1 + 1 + 1 + 1 + 1 by omega]
      simp only [JB, List.flatMap_cons, List.cons_append, List.nil_append, List.drop_succ_cons] at this ⊢
      exact this
theorem JB_ins (l : List Jb) (k : Nat) (x : Jb) : JB (l.take k ++ x :: l.drop k) = (JB l).take (k * 5) ++ [x.i, x.d, x.k, x.v, x.f] ++ (JB l).drop (k * 5) := by
  rw [JB_append, JB_take', List.append_assoc]
  congr 1
  show [x.i, x.d, x.k, x.v, x.f] ++ JB (l.drop k) = _
  rw [JB_drop']
theorem JB_fired_getD (l : List Jb) (k : Nat) (v : Int) (hk : k < l.length) (t : Nat) (ht : t < l.length * 5) : (JB (firedSet l k v)).getD t 0 = if t = k * 5 + 4 then v else (JB l).getD t 0 := by
  have hlen : (firedSet l k v).length = l.length := by simp [firedSet]
  have hi : t / 5 < l.length := by omega
  have hset : (firedSet l k v).getD (t / 5) default = if t / 5 = k then { (l.getD k default) with f := v } else l.getD (t / 5) default := by
    unfold firedSet
    by_cases h : t / 5 = k
    · rw [h]; simp [List.getD, hk]
    · rw [if_neg h]; simp [List.getD, List.getElem?_set_ne (Ne.symm h)]
  have ht' : t = t / 5 * 5 + t % 5 := by omega
  have h5 : t % 5 < 5 := Nat.mod_lt _ (by decide)
  have e1 := JB_get (firedSet l k v) (t / 5) (t % 5) (by rw [hlen]; exact hi) h5
  have e2 := JB_get l (t / 5) (t % 5) hi h5
  rw [← ht'] at e1 e2
  rw [e1, e2, hset]
  by_cases h : t / 5 = k
  · rw [if_pos h]
    by_cases h4 : t % 5 = 4
    · rw [if_pos (by omega), h4]; rfl
    · rw [if_neg (by omega), h]
      rcases (by omega : t % 5 = 0 ∨ t % 5 = 1 ∨ t % 5 = 2 ∨ t % 5 = 3) with e | e | e | e <;> rw [e] <;> rfl
  · rw [if_neg h, if_neg (by omega)]
end Go.Proofs.YtokklkmibjpjnaaGreat
namespace Go.Proofs.YtokklkmibjpjnaaGreat
set_option linter.unusedSimpArgs false
set_option linter.unusedVariables false
attribute [local go_sem] n_lt2 n_lt3 n_lt4 n_le2 n_le3
open Go.RowKit

structure Du where
  i : Int
  d : Int
instance : Inhabited Du := ⟨⟨0, 0⟩⟩
def DU (l : List Du) : List Int := l.flatMap fun j => [j.i, j.d]
theorem DU_len (l : List Du) : (DU l).length = l.length * 2 := flat_len _ 2 l (fun _ _ => rfl)
theorem DU_append (a b : List Du) : DU (a ++ b) = DU a ++ DU b := by simp [DU]
theorem DU_get (l : List Du) (i j : Nat) (h : i < l.length) (hj : j < 2) : (DU l).getD (i * 2 + j) 0 = [(l.getD i default).i, (l.getD i default).d].getD j 0 := by
  have := flat_getD (fun j : Du => [j.i, j.d]) 2 l (fun _ _ => rfl) i j h hj
  have e : l.getD i default = l[i] := by simp [List.getD, h]
  rw [e]
  exact this
theorem DU_of : ∀ (n : Nat) (zs : List Int), zs.length = n * 2 → ∃ l : List Du, l.length = n ∧ DU l = zs
  | 0, zs, h => ⟨[], rfl, by simpa [DU] using (List.eq_nil_of_length_eq_zero (by omega)).symm⟩
  | n + 1, a0 :: a1 :: zs, h => by
    obtain ⟨l, hl, he⟩ := DU_of n zs (by simp at h; omega)
    exact ⟨⟨a0, a1⟩ :: l, by simp [hl], by rw [← he]; rfl⟩
  | n + 1, [], h => by simp at h
  | n + 1, [_], h => by simp at h; omega
theorem sl_dues {w : World} {A : Option Addr} {n : Nat} {l : List Du} (h : Sl w 2 A n (DU l)) (hn : 0 < n) : ∃ b off, A = some ⟨b, off, none⟩ ∧ b < w.heap.size ∧
    ∀ i, i < n → w.cell? ⟨b, off + i * 2, none⟩ = some (.int .i64 (l.getD i default).i) ∧ w.cell? ⟨b, off + i * 2 + 1, none⟩ = some (.int .i64 (l.getD i default).d) := by
  have hl : l.length = n := by
    have := h.len
    rw [DU_len] at this
    omega
  obtain ⟨b, off, hA, hb, hc⟩ := h.at_ hn
  have hg : ∀ i, i < n → ∀ j, j < 2 → w.cell? ⟨b, off + i * 2 + j, none⟩ = some (.int .i64 ([(l.getD i default).i, (l.getD i default).d].getD j 0)) := fun i hi j hj => by
    rw [Nat.add_assoc, hc (i * 2 + j) (by omega), DU_get l i j (by omega) hj]
  exact ⟨b, off, hA, hb, fun i hi => ⟨hg i hi 0 (by decide), hg i hi 1 (by decide)⟩⟩

def openJ (j : Jb) : Bool := decide (j.f = 0)
def duOf (j : Jb) : Du := ⟨j.i, j.d⟩
def duLt (a b : Du) : Prop := a.d < b.d ∨ (a.d = b.d ∧ a.i < b.i)
/-- The open jobs, in the list's order. -/
def opens (l : List Jb) : List Du := (l.filter openJ).map duOf
def kInsF (l : List Du) (d : Int) : Nat → Nat
  | 0 => 0
  | k + 1 => if d < (l.getD k default).d then kInsF l d k else k + 1
def kIns (l : List Du) (d : Int) : Nat := kInsF l d l.length
def insDu (l : List Du) (x : Du) : List Du := l.take (kIns l x.d) ++ x :: l.drop (kIns l x.d)
theorem kInsF_le (l : List Du) (d : Int) : ∀ n, kInsF l d n ≤ n
  | 0 => Nat.le_refl _
  | n + 1 => by
    unfold kInsF
    split
    · exact Nat.le_trans (kInsF_le l d n) (Nat.le_succ n)
    · exact Nat.le_refl _
theorem kIns_le (l : List Du) (d : Int) : kIns l d ≤ l.length := kInsF_le l d l.length
theorem kInsF_eq {l : List Du} {d : Int} {k : Nat} : ∀ n, k ≤ n → (∀ j, k ≤ j → j < n → d < (l.getD j default).d) → (0 < k → (l.getD (k - 1) default).d ≤ d) → kInsF l d n = k
  | 0, h, _, _ => by
    have : k = 0 := by omega
    subst this
    rfl
  | n + 1, h, hj, hs => by
    unfold kInsF
    by_cases hk : k = n + 1
    · subst hk
      have := hs (by omega)
      rw [if_neg (by simp only [Nat.add_sub_cancel] at this; omega)]
    · rw [if_pos (hj n (by omega) (by omega))]
      exact kInsF_eq n (by omega) (fun j h1 h2 => hj j h1 (by omega)) hs
theorem kIns_eq {l : List Du} {d : Int} {k : Nat} (h : k ≤ l.length) (hj : ∀ j, k ≤ j → j < l.length → d < (l.getD j default).d) (hs : 0 < k → (l.getD (k - 1) default).d ≤ d) : kIns l d = k := kInsF_eq _ h hj hs
theorem kInsF_spec {l : List Du} {d : Int} : ∀ n, (∀ j, kInsF l d n ≤ j → j < n → d < (l.getD j default).d) ∧ (0 < kInsF l d n → (l.getD (kInsF l d n - 1) default).d ≤ d)
  | 0 => ⟨fun j _ h => absurd h (by omega), fun h => absurd h (by unfold kInsF; omega)⟩
  | n + 1 => by
    unfold kInsF
    by_cases h : d < (l.getD n default).d
    · rw [if_pos h]
      refine ⟨fun j h1 h2 => ?_, (kInsF_spec n).2⟩
      rcases Nat.lt_or_ge j n with h3 | h3
      · exact (kInsF_spec n).1 j h1 h3
      · obtain rfl : j = n := by omega
        exact h
    · rw [if_neg h]
      exact ⟨fun j h1 h2 => absurd h1 (by omega), fun _ => by simp only [Nat.add_sub_cancel]; omega⟩
theorem insDu_perm (l : List Du) (x : Du) : (insDu l x).Perm (l ++ [x]) := by
  unfold insDu
  refine List.Perm.trans (List.perm_middle) ?_
  rw [List.take_append_drop]
  exact (List.perm_append_singleton x l).symm
theorem insDu_len (l : List Du) (x : Du) : (insDu l x).length = l.length + 1 := by
  have := (insDu_perm l x).length_eq
  simpa using this
theorem duLt_le {a b : Du} (h : duLt a b) : a.d ≤ b.d := by unfold duLt at h; omega
theorem duLt_asym {a b : Du} (h : duLt a b) (h' : duLt b a) : a = b := by unfold duLt at h h'; omega
theorem insDu_sorted {l : List Du} {x : Du} (h : l.Pairwise duLt) (hx : ∀ y ∈ l, y.i < x.i) : (insDu l x).Pairwise duLt := by
  have hs := @kInsF_spec l x.d l.length
  have hle := kIns_le l x.d
  unfold insDu
  change (∀ j, kIns l x.d ≤ j → j < l.length → x.d < (l.getD j default).d) ∧ (0 < kIns l x.d → (l.getD (kIns l x.d - 1) default).d ≤ x.d) at hs
  generalize kIns l x.d = k at hs hle
  have hp := List.pairwise_iff_getElem.1 h
  rw [List.pairwise_append]
  refine ⟨h.sublist (List.take_sublist _ _), ?_, ?_⟩
  · rw [List.pairwise_cons]
    refine ⟨fun y hy => ?_, h.sublist (List.drop_sublist _ _)⟩
    obtain ⟨j, hj, rfl⟩ := List.getElem_of_mem hy
    rw [List.length_drop] at hj
    rw [List.getElem_drop]
    have := hs.1 (k + j) (by omega) (by omega)
    simp only [List.getD, List.getElem?_eq_getElem (show k + j < l.length by omega), Option.getD_some] at this
    exact .inl this
  · intro a ha b hb
    obtain ⟨i, hi, rfl⟩ := List.getElem_of_mem ha
    rw [List.length_take] at hi
    rw [List.getElem_take]
    have hik : i < k := by omega
    have hil : i < l.length := by omega
    have h1 : l[i].d ≤ x.d := by
      have h2 := hs.2 (by omega)
      simp only [List.getD, List.getElem?_eq_getElem (show k - 1 < l.length by omega), Option.getD_some] at h2
      by_cases h3 : i = k - 1
      · subst h3; exact h2
      · have := duLt_le (hp i (k - 1) hil (by omega) (by omega))
        omega
    rw [List.mem_cons] at hb
    rcases hb with rfl | hb
    · have := hx l[i] (List.getElem_mem hil)
      unfold duLt
      omega
    · obtain ⟨j, hj, rfl⟩ := List.getElem_of_mem hb
      rw [List.length_drop] at hj
      rw [List.getElem_drop]
      exact hp i (k + j) hil (by omega) (by omega)
/-- What the reference's loop has laid behind k jobs. -/
def openTo (l : List Jb) : Nat → List Du
  | 0 => []
  | k + 1 => if openJ (l.getD k default) = true then insDu (openTo l k) (duOf (l.getD k default)) else openTo l k
def openL (l : List Jb) : List Du := openTo l l.length
theorem openTo_len (l : List Jb) : ∀ k, (openTo l k).length ≤ k
  | 0 => Nat.le_refl _
  | k + 1 => by
    have := openTo_len l k
    unfold openTo
    split
    · rw [insDu_len]; omega
    · omega
theorem take_succ_getD {l : List Jb} {k : Nat} (h : k < l.length) : l.take (k + 1) = l.take k ++ [l.getD k default] := by
  rw [List.take_succ_eq_append_getElem h]
  simp [List.getD, h]
theorem opens_snoc (l : List Jb) (j : Jb) : opens (l ++ [j]) = if openJ j = true then opens l ++ [duOf j] else opens l := by
  unfold opens
  rw [List.filter_append, List.map_append]
  by_cases h : openJ j = true <;> simp [List.filter_cons, h]
theorem openTo_perm {l : List Jb} : ∀ k, k ≤ l.length → (openTo l k).Perm (opens (l.take k))
  | 0, _ => by simp [openTo, opens]
  | k + 1, h => by
    rw [take_succ_getD (by omega), opens_snoc]
    unfold openTo
    have ih := openTo_perm (l := l) k (by omega)
    split
    · exact (insDu_perm _ _).trans (ih.append_right _)
    · exact ih
theorem openTo_sorted {l : List Jb} (hl : l.Pairwise (fun p q => p.i < q.i)) : ∀ k, k ≤ l.length → (openTo l k).Pairwise duLt
  | 0, _ => by simp [openTo]
  | k + 1, h => by
    have ih := openTo_sorted hl k (by omega)
    unfold openTo
    split
    · refine insDu_sorted ih (fun y hy => ?_)
      have hy' := (openTo_perm k (by omega)).mem_iff.1 hy
      obtain ⟨p, hp, rfl⟩ := List.mem_map.1 hy'
      have hp1 := (List.mem_filter.1 hp).1
      obtain ⟨i, hi, rfl⟩ := List.getElem_of_mem hp1
      rw [List.length_take] at hi
      rw [List.getElem_take]
      have := List.pairwise_iff_getElem.1 hl i k (by omega) (by omega) (by omega)
      simpa [duOf, List.getD, show k < l.length by omega] using this
    · exact ih
theorem openL_perm (l : List Jb) : (openL l).Perm (opens l) := by
  have := openTo_perm (l := l) l.length (Nat.le_refl _)
  rwa [List.take_length] at this
theorem openL_sorted {l : List Jb} (h : jobsB l = true) : (openL l).Pairwise duLt := openTo_sorted (jobs_lt h) _ (Nat.le_refl _)
theorem openL_len (l : List Jb) : (openL l).length ≤ l.length := openTo_len l l.length
/-- Any sorted order of the open jobs is the reference's. -/
theorem openL_of {l : List Jb} (h : jobsB l = true) {s : List Du} (hp : s.Perm (opens l)) (hs : s.Pairwise (fun a b => ¬ duLt b a)) : s = openL l := by
  have hne : s.Pairwise (fun a b => a.i ≠ b.i) := by
    refine List.Pairwise.perm ?_ hp.symm (fun h => Ne.symm h)
    unfold opens
    rw [List.pairwise_map]
    refine ((jobs_lt h).filter _).imp ?_
    intro a b hab
    show a.i ≠ b.i
    omega
  refine List.Perm.eq_of_pairwise (le := duLt) (fun a b _ _ h1 h2 => duLt_asym h1 h2) ?_ (openL_sorted h) (hp.trans (openL_perm l).symm)
  refine List.Pairwise.imp₂ ?_ hs hne
  intro a b h1 h2
  unfold duLt at h1 ⊢
  omega

/-- DueJobs: of those the ones that are due. -/
def dueTo (s : List Du) (time : Int) : Nat → List Int
  | 0 => []
  | k + 1 => if (s.getD k default).d ≤ time then dueTo s time k ++ [(s.getD k default).i] else dueTo s time k
def dueL (l : List Jb) (time : Int) : List Int := dueTo (openL l) time (openL l).length
theorem dueTo_len (s : List Du) (time : Int) : ∀ k, (dueTo s time k).length ≤ k
  | 0 => Nat.le_refl _
  | k + 1 => by
    have := dueTo_len s time k
    unfold dueTo
    split
    · rw [List.length_append]; simp; omega
    · omega

/-- FiredJobs. -/
def firedJ (j : Jb) : Bool := !openJ j
def fireds (l : List Jb) : List Jb := l.filter firedJ
def firedS (l : List Jb) : List Jb := (fireds l).mergeSort (fun a b => decide (a.f ≤ b.f))
def firL (l : List Jb) : List Int := (firedS l).map (·.i)
theorem firedS_perm (l : List Jb) : (firedS l).Perm (fireds l) := List.mergeSort_perm _ _
theorem firedS_len (l : List Jb) : (firedS l).length ≤ l.length := by
  rw [(firedS_perm l).length_eq]
  exact List.length_filter_le _ _
theorem jobs_fired_ne {l : List Jb} (h : jobsB l = true) : (fireds l).Pairwise (fun a b => a.f ≠ b.f) := by
  unfold fireds
  rw [List.pairwise_filter, List.pairwise_iff_getElem]
  intro i j hi hj hij h1 h2 he
  have h3 := (jobsB_all h).2 j hj
  have h4 := jobAtB_ok h3
  unfold jobAtB at h3
  simp only [Bool.and_eq_true, Bool.not_eq_true', Bool.and_eq_false_iff, decide_eq_false_iff_not] at h3
  have e1 : l.getD j default = l[j] := by simp [List.getD, hj]
  have e2 : l.getD i default = l[i] := by simp [List.getD, hi]
  rw [e1] at h3 h4
  have h5 : 0 ≤ l[j].f := by
    simp only [jobOkB, jobB, Bool.and_eq_true, inB_iff] at h4
    exact h4.2.2.2.2.1
  have h6 : l[j].f ≠ 0 := by simpa [firedJ, openJ] using h2
  rcases h3.2.2 with h7 | h7
  · omega
  · rw [firedBefore_true hij (by rw [e2]; exact he)] at h7
    cases h7
theorem firedS_sorted {l : List Jb} (h : jobsB l = true) : (firedS l).Pairwise (fun a b => a.f < b.f) := by
  have h1 : (firedS l).Pairwise (fun a b => decide (a.f ≤ b.f) = true) := List.pairwise_mergeSort (fun a b c h1 h2 => by simp only [decide_eq_true_eq] at *; omega) (fun a b => by simp only [Bool.or_eq_true, decide_eq_true_eq]; omega) _
  have h2 : (firedS l).Pairwise (fun a b => a.f ≠ b.f) := List.Pairwise.perm (jobs_fired_ne h) (firedS_perm l).symm (fun h => Ne.symm h)
  refine List.Pairwise.imp₂ ?_ h1 h2
  intro a b h3 h4
  simp only [decide_eq_true_eq] at h3
  omega
theorem firedS_of {l : List Jb} (h : jobsB l = true) {s : List Jb} (hp : s.Perm (fireds l)) (hs : s.Pairwise (fun a b => ¬ b.f < a.f)) : s = firedS l := by
  have hne : s.Pairwise (fun a b => a.f ≠ b.f) := List.Pairwise.perm (jobs_fired_ne h) hp.symm (fun h => Ne.symm h)
  refine List.Perm.eq_of_pairwise (le := fun a b : Jb => a.f < b.f) (fun a b _ _ h1 h2 => absurd h1 (by omega)) ?_ (firedS_sorted h) (hp.trans (firedS_perm l).symm)
  refine List.Pairwise.imp₂ ?_ hs hne
  intro a b h1 h2
  omega
def lastF (l : List Jb) (k : Nat) : Int := if k = 0 then 0 else ((firedS l).getD (k - 1) default).f
theorem fired_pos {l : List Jb} (h : jobsB l = true) {p : Jb} (hp : p ∈ fireds l) : 0 < p.f := by
  obtain ⟨h1, h2⟩ := List.mem_filter.1 hp
  obtain ⟨j, hj, rfl⟩ := List.getElem_of_mem h1
  have h4 := jobAtB_ok ((jobsB_all h).2 j hj)
  have e1 : l.getD j default = l[j] := by simp [List.getD, hj]
  rw [e1] at h4
  have h6 : l[j].f ≠ 0 := by simpa [firedJ, openJ] using h2
  simp only [jobOkB, jobB, Bool.and_eq_true, inB_iff] at h4
  have := h4.2.2.2.2.1
  omega
/-- Nothing is fired behind the last one: the list is whole. -/
theorem fired_end {l : List Jb} (h : jobsB l = true) {k : Nat} (hk : k ≤ (firedS l).length) (hn : ∀ j, j < l.length → ¬ lastF l k < (l.getD j default).f) : k = (firedS l).length := by
  rcases Nat.lt_or_ge k (firedS l).length with hlt | hge
  · exfalso
    have hm : (firedS l)[k] ∈ fireds l := (firedS_perm l).mem_iff.1 (List.getElem_mem hlt)
    have hpos := fired_pos h hm
    obtain ⟨j, hj, he⟩ := List.getElem_of_mem (List.mem_filter.1 hm).1
    refine hn j hj ?_
    have e1 : l.getD j default = l[j] := by simp [List.getD, hj]
    rw [e1, he]
    unfold lastF
    split
    · exact hpos
    · have := List.pairwise_iff_getElem.1 (firedS_sorted h) (k - 1) k (by omega) hlt (by omega)
      simpa [List.getD, show k - 1 < (firedS l).length by omega] using this
  · omega
/-- The least one behind the last is the next. -/
theorem fired_next {l : List Jb} (h : jobsB l = true) {k b : Nat} (hk : k ≤ (firedS l).length) (hb : b < l.length) (hl : lastF l k < (l.getD b default).f) (hm : ∀ j, j < l.length → lastF l k < (l.getD j default).f → (l.getD b default).f ≤ (l.getD j default).f) :
    k < (firedS l).length ∧ (firedS l).getD k default = l.getD b default := by
  have hlast : 0 ≤ lastF l k := by
    unfold lastF
    split
    · exact Int.le_refl _
    · have h1 : k - 1 < (firedS l).length := by omega
      have := fired_pos h ((firedS_perm l).mem_iff.1 (List.getElem_mem h1))
      simp only [List.getD, List.getElem?_eq_getElem h1, Option.getD_some]
      omega
  have e1 : l.getD b default = l[b] := by simp [List.getD, hb]
  rw [e1] at hl hm ⊢
  have hbm : l[b] ∈ fireds l := List.mem_filter.2 ⟨List.getElem_mem hb, by simp [firedJ, openJ]; omega⟩
  obtain ⟨q, hq, he⟩ := List.getElem_of_mem ((firedS_perm l).mem_iff.2 hbm)
  have hs := List.pairwise_iff_getElem.1 (firedS_sorted h)
  have hkq : k ≤ q := by
    rcases Nat.lt_or_ge q k with h1 | h1
    · exfalso
      unfold lastF at hl
      rw [if_neg (by omega)] at hl
      simp only [List.getD, List.getElem?_eq_getElem (show k - 1 < (firedS l).length by omega), Option.getD_some] at hl
      by_cases h2 : q = k - 1
      · subst h2; rw [he] at hl; omega
      · have := hs q (k - 1) hq (by omega) (by omega)
        rw [he] at this
        omega
    · exact h1
  have hkl : k < (firedS l).length := by omega
  refine ⟨hkl, ?_⟩
  by_cases hqk : q = k
  · subst hqk
    simp [List.getD, hq, he]
  · exfalso
    have h3 := hs k q hkl hq (by omega)
    rw [he] at h3
    have h4 : (firedS l)[k] ∈ fireds l := (firedS_perm l).mem_iff.1 (List.getElem_mem hkl)
    obtain ⟨j, hj, hje⟩ := List.getElem_of_mem (List.mem_filter.1 h4).1
    have e2 : l.getD j default = l[j] := by simp [List.getD, hj]
    have h5 := hm j hj (by
      rw [e2, hje]
      unfold lastF
      split
      · exact fired_pos h h4
      · have := hs (k - 1) k (by omega) hkl (by omega)
        simpa [List.getD, show k - 1 < (firedS l).length by omega] using this)
    rw [e2, hje] at h5
    omega
theorem lastF_succ {l : List Jb} {k : Nat} : lastF l (k + 1) = ((firedS l).getD k default).f := by
  unfold lastF
  simp
end Go.Proofs.YtokklkmibjpjnaaGreat
namespace Go.Proofs.YtokklkmibjpjnaaGreat
set_option linter.unusedSimpArgs false
set_option linter.unusedVariables false
attribute [local go_sem] n_lt2 n_lt3 n_lt4 n_le2 n_le3
open Go.RowKit
theorem slices_of {w : World} {s n : Nat} {A : Option Addr} {zs : List Int} {ad : Addr} (h : Sl w s A n zs) (hA : A = some ad) : ∀ j u, (ints zs)[j]? = some u → w.cell? (ad.add j) = some u := by
  intro j u hu
  have hj : j < zs.length := by
    rcases Nat.lt_or_ge j zs.length with h1 | h1
    · exact h1
    · rw [List.getElem?_eq_none (by rw [ints_length]; exact h1)] at hu
      exact absurd hu (by simp)
  have hl := h.len
  have hn : 0 < n := by
    rcases Nat.eq_zero_or_pos n with h0 | h0
    · rw [h0, Nat.zero_mul] at hl; omega
    · exact h0
  obtain ⟨b, off, hb, _, hc⟩ := h.at_ hn
  rw [hA] at hb
  obtain rfl := Option.some.inj hb
  have hadd : (⟨b, off, none⟩ : Addr).add j = ⟨b, off + j, none⟩ := by unfold Addr.add; split <;> simp_all
  rw [hadd, hc j (by rw [← hl]; exact hj), ← hu]
  exact (ints_get zs j hj).symm
theorem grows_below {w w' : World} (h : w.grownBy w' none) : Below w.heap.size w w' := (Below.refl w.heap.size w).grown h (Nat.le_refl _) (fun q hq => by simp at hq)
theorem run_append_nothing {P : Program} (w : World) (t ty e : TypeId) (i : TypeInfo) (ht : P.underlying t = some (.slice e)) (hi : P.info? e = some i) (b : Addr) (A : Option Addr) (c : Nat) :
    (Builtin.append_ #[t, t] ty #[.slice (some b) 0 0, .slice A 0 c]).run P w = .ok (.slice (some b) 0 0) w := by
  cases A <;> simp [Builtin.append_, run_underlying ht, sizeOf, typeInfo, hi, Builtin.lenOf, Builtin.firstCells, loadCells, loadCellsFrom, storeCells]
/-- append of the elements of a slice (of none too) onto the fresh block g of no elements. -/
theorem wp_append_copy {P : Program} {o : Oper} {a : Act} {w : World} {K : Act → World → Prop} {Q : Exit → Act → World → Prop}
    (hg : o.guard = none) (s x : Operand) (t : TypeId) (hop : o.op = Op.call { callee := Callee.builtin Builtin.append, args := #[s, x], argTypes := #[t, t] })
    (e : TypeId) (i : TypeInfo) (z : Value) (size bytes : Nat) (h1 : P.underlying t = some (.slice e)) (h2 : P.info? e = some i) (h3 : i.zero = some z) (h4 : i.size = size) (h5 : i.bytes = bytes) (h6 : z.cells.size = size) (h7 : 0 < size)
    (g : Nat) (hs : a.eval s = .slice (some ⟨g, 0, none⟩) 0 0) (lo : Nat) (A : Option Addr) (m c : Nat) (zs : List Int) (hx : a.eval x = .slice A m c)
    (b0 : m ≤ maxLen) (b1 : m * bytes ≤ 140737488355328) (hblk : Blk w g e #[]) (hlo : lo ≤ g) (hS : Sl w size A m zs)
    (hK : ∀ g' c' w', Row w' lo e size (some ⟨g', 0, none⟩) m c' zs → Below w.heap.size w w' → g' < w'.heap.size → (g' = g ∨ w.heap.size ≤ g') → K (a.put o.dst (.slice (some ⟨g', 0, none⟩) m c')) w') :
    Oper.wp P o a w K Q := by
  rcases Nat.eq_zero_or_pos m with hm | hm
  · subst hm
    have hz : zs = [] := List.eq_nil_of_length_eq_zero (by simpa using hS.len)
    subst hz
    have hrun := run_append_nothing (P := P) w t o.type e i h1 h2 ⟨g, 0, none⟩ A c
    unfold Oper.wp
    simp [execOp, hop, resolve, invoke, builtin, hs, hx, hrun, Result.andThen]
    exact hK g 0 w ⟨by simp [ints], .inr ⟨g, 0, #[], rfl, hlo, hblk, Nat.le_refl _, Nat.zero_le _, by simp, by simp [ints]⟩⟩ (Below.refl _ _) hblk.lt (.inl rfl)
  · obtain ⟨b, off, rfl, hb, hc⟩ := hS.at_ hm
    have hl := hS.len
    have hw : Region.wanted o (yielded #[] a.tmps) = true := by simp [Region.wanted, hg]
    have hst := step_append_grows (P := P) (ops := #[]) (o := o) (a := a) (w := w) (K := K) (Q := Q) (E := True) hg s x t hop e i z size bytes h1 h2 h3 h4 h5 h6 h7 (some ⟨g, 0, none⟩) 0 0 [] hs (by simp) (by simp) (fun _ _ j u hu => by simp at hu) ⟨b, off, none⟩ m c (ints zs) hx (by rw [ints_length]; exact hl)
      (slices_of hS rfl) (ints_oneCell' zs) (by omega) (by omega) (by rw [Nat.zero_add]; exact b1) (fun v' w' hown hgr => by
        have hB := grows_below hgr
        have hlw := hblk.lt
        rcases hown.2 with ⟨_, h0⟩ | ⟨g', c', cur, rfl, hge, hg', hrest⟩
        · omega
        · rw [Nat.zero_add] at hown ⊢
          have hR : Row w' w.heap.size e size (some ⟨g', 0, none⟩) m c' zs := by
            rw [List.nil_append] at hown
            exact hown
          exact hK g' c' w' (hR.mono (by omega)) hB (hR.lt _ rfl) (.inr hge))
    rw [if_pos hw] at hst
    exact hst
theorem step_append_copy {P : Program} {ops : Array Oper} {o : Oper} {a : Act} {w : World} {K : Act → World → Prop} {Q : Exit → Act → World → Prop} {E : Prop}
    (hg : o.guard = none) (s x : Operand) (t : TypeId) (hop : o.op = Op.call { callee := Callee.builtin Builtin.append, args := #[s, x], argTypes := #[t, t] })
    (e : TypeId) (i : TypeInfo) (z : Value) (size bytes : Nat) (h1 : P.underlying t = some (.slice e)) (h2 : P.info? e = some i) (h3 : i.zero = some z) (h4 : i.size = size) (h5 : i.bytes = bytes) (h6 : z.cells.size = size) (h7 : 0 < size)
    (g : Nat) (hs : a.eval s = .slice (some ⟨g, 0, none⟩) 0 0) (lo : Nat) (A : Option Addr) (m c : Nat) (zs : List Int) (hx : a.eval x = .slice A m c)
    (b1 : m ≤ 1000) (b2 : bytes ≤ 1000) (hblk : Blk w g e #[]) (hlo : lo ≤ g) (hS : Sl w size A m zs)
    (hK : ∀ g' c' w', Row w' lo e size (some ⟨g', 0, none⟩) m c' zs → Below w.heap.size w w' → g' < w'.heap.size → (g' = g ∨ w.heap.size ≤ g') → K (a.put o.dst (.slice (some ⟨g', 0, none⟩) m c')) w') :
    if Region.wanted o (yielded ops a.tmps) = true then Oper.wp P o a w K Q else E := by
  rw [if_pos (by simp [Region.wanted, hg])]
  exact wp_append_copy hg s x t hop e i z size bytes h1 h2 h3 h4 h5 h6 h7 g hs lo A m c zs hx (by unfold maxLen; omega) (by have := Nat.mul_le_mul b1 b2; omega) hblk hlo hS hK
theorem wpList_append_copy {P : Program} {ops : Array Oper} {rest : List Oper} {o : Oper} {a : Act} {w : World} {Q : Exit → Act → World → Prop}
    (hg : o.guard = none) (s x : Operand) (t : TypeId) (hop : o.op = Op.call { callee := Callee.builtin Builtin.append, args := #[s, x], argTypes := #[t, t] })
    (e : TypeId) (z : Value) (size bytes : Nat) (h1 : P.underlying t = some (.slice e)) (hinfo : (P.info? e).map (fun i => (i.zero, i.size, i.bytes)) = some (some z, size, bytes)) (h6 : z.cells.size = size) (h7 : 0 < size)
    (g : Nat) (hs : a.eval s = .slice (some ⟨g, 0, none⟩) 0 0) (lo : Nat) (A : Option Addr) (m c : Nat) (zs : List Int) (hx : a.eval x = .slice A m c)
    (b0 : m ≤ maxLen) (b1 : m * bytes ≤ 140737488355328) (hblk : Blk w g e #[]) (hlo : lo ≤ g) (hS : Sl w size A m zs)
    (hK : ∀ g' c' w', Row w' lo e size (some ⟨g', 0, none⟩) m c' zs → Below w.heap.size w w' → g' < w'.heap.size → (g' = g ∨ w.heap.size ≤ g') → wpList P ops Q rest (a.put o.dst (.slice (some ⟨g', 0, none⟩) m c')) w') :
    wpList P ops Q (o :: rest) a w := by
  obtain ⟨i, hi, hiz, his, hib⟩ : ∃ i, P.info? e = some i ∧ i.zero = some z ∧ i.size = size ∧ i.bytes = bytes := by
    cases hq : P.info? e with
    | none => rw [hq] at hinfo; simp at hinfo
    | some i =>
      rw [hq] at hinfo
      simp only [Option.map_some, Option.some.injEq, Prod.mk.injEq] at hinfo
      exact ⟨i, rfl, hinfo.1, hinfo.2.1, hinfo.2.2⟩
  exact wpList_plain hg fun _ hK2 => wp_append_copy hg s x t hop e i z size bytes h1 hi hiz his hib h6 h7 g hs lo A m c zs hx b0 b1 hblk hlo hS (fun g' c' w' r1 r2 r3 r4 => hK2 _ _ (hK g' c' w' r1 r2 r3 r4))
end Go.Proofs.YtokklkmibjpjnaaGreat
namespace Go.Proofs.YtokklkmibjpjnaaGreat
set_option linter.unusedSimpArgs false
set_option linter.unusedVariables false
attribute [local go_sem] n_lt2 n_lt3 n_lt4 n_le2 n_le3
open Go.RowKit
/-- What OpenJobs hands back. -/
def openR (l : List Jb) : List Du := if jobsB l = true then openL l else []
theorem openR_len (l : List Jb) : (openR l).length ≤ 8 := by
  unfold openR
  split
  · rename_i h
    exact Nat.le_trans (openL_len l) (jobsB_all h).1
  · exact Nat.zero_le _
theorem cell_two_at' (w : World) (x0 x1 : Value) (t : TypeId) (g : Nat) (hg : g = w.heap.size) : ∀ j u, [x0, x1][j]? = some u → (w.alloc (.cells #[x0, x1] t)).cell? ((⟨g, 0, none⟩ : Addr).add j) = some u := by
  subst hg
  intro j u hj
  match j, hj with
  | 0, hj => simp at hj; subst hj; simp [Addr.add]
  | 1, hj => simp at hj; subst hj; simp [Addr.add]
theorem held_al {W v : World} (h : ∀ b o, b < W.heap.size → v.cell? ⟨b, o, none⟩ = W.cell? ⟨b, o, none⟩) (hz : W.heap.size ≤ v.heap.size) (x : Obj) : ∀ b o, b < W.heap.size → (v.alloc x).cell? ⟨b, o, none⟩ = W.cell? ⟨b, o, none⟩ :=
  fun b o hb => (((Below.refl v.heap.size v).alloc (Nat.le_refl _) x).cell (p := ⟨b, o, none⟩) (Nat.lt_of_lt_of_le hb hz)).trans (h b o hb)
theorem held_dr {W v : World} (h : ∀ b o, b < W.heap.size → v.cell? ⟨b, o, none⟩ = W.cell? ⟨b, o, none⟩) : ∀ b o, b < W.heap.size → v.drew.cell? ⟨b, o, none⟩ = W.cell? ⟨b, o, none⟩ := h
theorem info_Due : (Tryz.prog.info? 124).map (fun i => (i.zero, i.size, i.bytes)) = some (some (.agg #[.int .i64 0, .int .i64 0]), 2, 16) := by kernel_rfl
theorem btr {lo : Nat} {w a b : World} (h1 : Below lo w a) (h2 : Below lo a b) : Below lo w b :=
  ⟨h2.os.trans h1.os, h2.tape.trans h1.tape, h2.output.trans h1.output, Nat.le_trans h1.size h2.size, fun k hk => (h2.block k hk).trans (h1.block k hk)⟩
attribute [local go_sem] Ext.cell Ext.frozen
theorem sl_take {w : World} {s n : Nat} {A : Option Addr} {zs : List Int} (h : Sl w s A n zs) (k : Nat) (hk : k ≤ n) : Sl w s A k (zs.take (k * s)) := by
  have hl := h.len
  have hm : k * s ≤ n * s := Nat.mul_le_mul_right s hk
  refine ⟨by simp; omega, fun hk0 => ?_⟩
  obtain ⟨b, off, hA, hb, hc⟩ := h.2 (by omega)
  refine ⟨b, off, hA, hb, fun j hj => ?_⟩
  rw [hc j (by omega)]
  congr 2
  simp [List.getD, List.getElem?_take, hj]
theorem sl_drop {w : World} {s n b off : Nat} {zs : List Int} (h : Sl w s (some ⟨b, off, none⟩) n zs) (k : Nat) (hk : k ≤ n) : Sl w s (some ⟨b, off + k * s, none⟩) (n - k) (zs.drop (k * s)) := by
  have hl := h.len
  refine ⟨by rw [List.length_drop, hl, Nat.sub_mul], fun hk0 => ?_⟩
  obtain ⟨b', off', hA, hb, hc⟩ := h.2 (by omega)
  injection hA with hA
  injection hA with h1 h2
  subst h1 h2
  refine ⟨b, off + k * s, rfl, hb, fun j hj => ?_⟩
  have h5 : k * s + j < n * s := by
    rw [Nat.sub_mul] at hj
    omega
  have h3 := hc (k * s + j) h5
  rw [show off + k * s + j = off + (k * s + j) by omega, h3]
  congr 2
  simp [List.getD, List.getElem?_drop]
theorem DU_take (l : List Du) (k : Nat) : DU (l.take k) = (DU l).take (k * 2) := by
  induction l generalizing k with
  | nil => simp [DU]
  | cons a l ih =>
    cases k with
    | zero => simp [DU]
    | succ k =>
      have := ih k
      unfold DU at this ⊢
      simp only [List.take_succ_cons, List.flatMap_cons, this]
      rw [show (k + 1) * 2 = k * 2 + 1 + 1 by omega]
      rfl
theorem DU_drop (l : List Du) (k : Nat) : DU (l.drop k) = (DU l).drop (k * 2) := by
  induction l generalizing k with
  | nil => simp [DU]
  | cons a l ih =>
    cases k with
    | zero => simp [DU]
    | succ k =>
      have := ih k
      unfold DU at this ⊢
      simp only [List.drop_succ_cons, List.flatMap_cons, this]
      rw [show (k + 1) * 2 = k * 2 + 1 + 1 by omega]
      rfl
theorem DU_cons (x : Du) (l : List Du) : DU (x :: l) = [x.i, x.d] ++ DU l := rfl
theorem heldb_dr {W v : World} {b : Nat} (h : ∀ o, v.cell? ⟨b, o, none⟩ = W.cell? ⟨b, o, none⟩) : ∀ o, v.drew.cell? ⟨b, o, none⟩ = W.cell? ⟨b, o, none⟩ := h
theorem heldb_al {W v : World} {b : Nat} (h : ∀ o, v.cell? ⟨b, o, none⟩ = W.cell? ⟨b, o, none⟩) (hb : b < v.heap.size) (x : Obj) : ∀ o, (v.alloc x).cell? ⟨b, o, none⟩ = W.cell? ⟨b, o, none⟩ :=
  fun o => (((Below.refl v.heap.size v).alloc (Nat.le_refl _) x).cell (p := ⟨b, o, none⟩) hb).trans (h o)
theorem heldb_wr {W v v' : World} {b g : Nat} (hw : Wrote v v' (some ⟨g, 0, none⟩)) (h : ∀ o, v.cell? ⟨b, o, none⟩ = W.cell? ⟨b, o, none⟩) (hb : b < v.heap.size) (hne : b ≠ g) : ∀ o, v'.cell? ⟨b, o, none⟩ = W.cell? ⟨b, o, none⟩ :=
  fun o => (World.cell?_of_block (World.grownBy.block hw b hb (by simpa using hne))).trans (h o)
/-- append onto a row of the call's own, as one step of a region that draws. -/
theorem step_append_rowS {P : Program} {ops : Array Oper} {o : Oper} {a : Act} {w : World} {K : Act → World → Prop} {Q : Exit → Act → World → Prop} {E : Prop}
    (hg : o.guard = none) (s x : Operand) (t : TypeId) (hop : o.op = Op.call { callee := Callee.builtin Builtin.append, args := #[s, x], argTypes := #[t, t] })
    (e : TypeId) (z : Value) (size bytes : Nat) (h1 : P.underlying t = some (.slice e)) (hinfo : (P.info? e).map (fun i => (i.zero, i.size, i.bytes)) = some (some z, size, bytes)) (h6 : z.cells.size = size) (h7 : 0 < size)
    (lo g n cap : Nat) (xs : List Int) (hs : a.eval s = .slice (some ⟨g, 0, none⟩) n cap) (hR : Row w lo e size (some ⟨g, 0, none⟩) n cap xs)
    (ad : Addr) (m c : Nat) (news : List Int) (hx : a.eval x = .slice (some ad) m c) (hl : news.length = m * size) (hnews : ∀ j u, (ints news)[j]? = some u → w.cell? (ad.add j) = some u) (hm : 0 < m)
    (b0 : n + m ≤ maxLen) (b1 : (n + m) * bytes ≤ 140737488355328) (hlo : lo ≤ w.heap.size)
    (hK : ∀ g' c' w', Row w' lo e size (some ⟨g', 0, none⟩) (n + m) c' (xs ++ news) → Wrote w w' (some ⟨g, 0, none⟩) → (g' = g ∨ g' = w.heap.size) → K (a.put o.dst (.slice (some ⟨g', 0, none⟩) (n + m) c')) w') :
    if Region.wanted o (yielded ops a.tmps) = true then Oper.wp P o a w K Q else E := by
  obtain ⟨i, hi, hiz, his, hib⟩ : ∃ i, P.info? e = some i ∧ i.zero = some z ∧ i.size = size ∧ i.bytes = bytes := by
    cases hq : P.info? e with
    | none => rw [hq] at hinfo; simp at hinfo
    | some i =>
      rw [hq] at hinfo
      simp only [Option.map_some, Option.some.injEq, Prod.mk.injEq] at hinfo
      exact ⟨i, rfl, hinfo.1, hinfo.2.1, hinfo.2.2⟩
  refine step_append_lies _ hg s x t hop lo e i z size bytes h1 hi hiz his hib h6 h7 _ n (ints xs) hs hR ad m c (ints news) hx (by rw [ints_length]; exact hl) hnews (ints_oneCell' news) hm b0 b1 hlo w.heap.size rfl ?_
  intro g' c' w' hown hgr hat _
  rw [← ints_append] at hown
  exact hK g' c' w' hown hgr (by
    rcases hat with h | h
    · left; simpa [Value.ownBlock] using h.symm
    · right; exact h)
set_option maxRecDepth 100000 in
set_option maxHeartbeats 8000000 in
theorem specOpenJobs_any (A : Option Addr) (n cap : Nat) (l : List Jb) (w : World) (hS : Sl w 5 A n (JB l)) (hl : l.length = n) (hn : n ≤ maxLen) :
    Calls Tryz.prog 87 #[.slice A n cap] w (RetRow w 124 2 (openR l).length (DU (openR l))) := by
  have HS := Lib.hid (fun (v : World) (hB : Below w.heap.size w v) => hS.below hB)
  have c1 := fun (v : World) (hv : Sl v 5 A n (JB l)) => specJobsOk_any A n cap l v hv hl hn
  clear hS
  cases hb : jobsB l with
  | false =>
    have hr : openR l = [] := by unfold openR; rw [hb]; rfl
    rw [hr]
    rw [hb] at c1
    have C1 := Lib.hid c1
    clear c1
    go_enter Tryz.func87, Tryz.ntmps87
    go_wp2_with fail
    refine calls_named ?_
    rintro v hv
    have bv : Below w.heap.size w v := by rw [hv]; exact (Below.refl _ _).alloc (Nat.le_refl _) _
    have R0 : Row v w.heap.size 124 2 (some ⟨w.heap.size, 0, none⟩) 0 0 [] := by rw [hv]; exact row0p (Blk.new w _ _) (Nat.le_refl _)
    clear hv
    refine (C1.out v (HS.out v bv)).mono ?_
    rintro e w1 ⟨rfl, b1⟩
    go_wp2
    go_ret
    exact RetRow.mk (R0.below b1) (bthen bv b1)
  | true =>
    have hr : openR l = openL l := by unfold openR; rw [hb]; rfl
    rw [hr]
    rw [hb] at c1
    have C1 := Lib.hid c1
    have h8 := (jobsB_all hb).1
    have hn8 : n ≤ 8 := by omega
    have HB := Lib.hid (jobsB_all hb).2
    have hL := Lib.hid hl
    clear c1 hr hb h8 hl
    go_enter Tryz.func87, Tryz.ntmps87
    go_wp2_with fail
    refine calls_named ?_
    rintro v hv
    have bv : Below w.heap.size w v := by rw [hv]; exact (Below.refl _ _).alloc (Nat.le_refl _) _
    have R0 : Row v w.heap.size 124 2 (some ⟨w.heap.size, 0, none⟩) 0 0 [] := by rw [hv]; exact row0p (Blk.new w _ _) (Nat.le_refl _)
    clear hv
    refine (C1.out v (HS.out v bv)).mono ?_
    rintro e w1 ⟨rfl, b1⟩
    have R1 := R0.below b1
    have f1 := bthen bv b1
    clear R0 bv b1
    go_wp2
    go_loopw [3, 4] (fun o iv wr => ∃ (j g0 c0 : Nat) (y : List Du), j ≤ n ∧ iv = .int .i64 (j : Nat) ∧ o = .slice (some ⟨g0, 0, none⟩) y.length c0 ∧ Row wr w.heap.size 124 2 (some ⟨g0, 0, none⟩) y.length c0 (DU y) ∧ Hid (y = openTo l j) ∧ Below w.heap.size w wr) (fun _ iv _ => n - (intOf iv).toNat)
    case atStart => exact ⟨0, _, _, [], Nat.zero_le _, rfl, rfl, R1, Lib.hid rfl, f1⟩
    case round =>
      clear R1 f1
      obtain ⟨j, g0, c0, y, hj, rfl, rfl, R, hy, hbl⟩ := hrel
      have hy8 : y.length ≤ 8 := by have := openTo_len l j; rw [← hy.out] at this; omega
      by_cases hjn : j < n
      · have hjn' : (j : Int) < (n : Int) := by omega
        obtain ⟨b0, off, rfl, hb0, hcell⟩ := sl_jobs (HS.out w (Below.refl _ _)) (by omega)
        obtain ⟨h0, h1, _, _, h4⟩ := hcell j hjn
        clear hcell
        rw [← hbl.cell (by exact hb0)] at h0 h1 h4
        have hok := jobAtB_ok (HB.out j (by rw [hL.out]; exact hjn))
        have hbr : b0 < wr.heap.size := Nat.lt_of_lt_of_le hb0 hbl.size
        have hop0 : openTo l (j + 1) = if openJ (l.getD j default) = true then insDu (openTo l j) (duOf (l.getD j default)) else openTo l j := rfl
        have HOP := Lib.hid hop0
        clear hop0
        generalize l.getD j default = pj at h0 h1 h4 hok HOP
        obtain ⟨xi, xd, xk, xv, xf⟩ := pj
        simp only at h0 h1 h4
        have hf0 : 0 ≤ xf := by unfold jobOkB jobB at hok; simp only [Bool.and_eq_true, inB_iff] at hok; omega
        clear hok
        by_cases hxf : 0 < xf
        · have hy2 := Lib.hid (show y = openTo l (j + 1) by rw [HOP.out, if_neg (by unfold openJ; simp; omega)]; exact hy.out)
          clear hf0 hy
          go_wp2
          exact ⟨⟨j + 1, g0, c0, y, by omega, by go_num, rfl, R, hy2, hbl⟩, by simp [intOf]; omega⟩
        · have hxz : xf = 0 := by omega
          have hop := Lib.hid (show openTo l (j + 1) = insDu (openTo l j) ⟨xi, xd⟩ by rw [HOP.out, if_pos (by unfold openJ; simp [hxz])]; rfl)
          have HC0 := Lib.hid (And.intro ((hbl.cell (p := ⟨b0, off + j * 5, none⟩) hb0).symm.trans h0) ((hbl.cell (p := ⟨b0, off + j * 5 + 1, none⟩) hb0).symm.trans h1))
          subst hxz
          clear hf0 hxf
          go_wp2
          clear h4 h0 h1
          go_loopw [5] (fun kv wq => ∃ k : Nat, k ≤ y.length ∧ kv = .int .i64 (k : Nat) ∧ Hid (kIns y xd = kInsF y xd k) ∧ Row wq w.heap.size 124 2 (some ⟨g0, 0, none⟩) y.length c0 (DU y) ∧ Below w.heap.size w wq) (fun kv _ => (intOf kv).toNat)
          case atStart => exact ⟨y.length, Nat.le_refl _, rfl, Lib.hid rfl, R, hbl⟩
          case round =>
            clear R hbl hbr
            obtain ⟨k, hk, rfl, hki, R, hbl⟩ := hrel
            have hbr : b0 < wr.heap.size := Nat.lt_of_lt_of_le hb0 hbl.size
            have h0 : wr.cell? ⟨b0, off + j * 5, none⟩ = some (.int .i64 xi) := (hbl.cell (p := ⟨b0, off + j * 5, none⟩) hb0).trans HC0.out.1
            have h1 : wr.cell? ⟨b0, off + j * 5 + 1, none⟩ = some (.int .i64 xd) := (hbl.cell (p := ⟨b0, off + j * 5 + 1, none⟩) hb0).trans HC0.out.2
            rcases Nat.eq_zero_or_pos k with hk0 | hk0
            · subst hk0
              have hins := Lib.hid (show kIns y xd = 0 from hki.out)
              clear hki
              go_wp2
              ((refine wp_region_ext (by kernel_rfl) (by kernel_rfl) ?_); (repeat (any_goals (first | go_big_quiet_step (fail) | (refine wpQuiet_step (fun K hK => ?_); go_simp; split <;> (refine hK _ ?_; clear hK K)) | quiet_step (fail)))); (all_goals (refine wpQuiet_nil ?_; rintro _ ⟨z, rfl⟩; have hb' := z.h; generalize z.w = w1 at hb' ⊢; clear z; (first | (have hb2 := bstep hb' hb hb.size; clear hb' hcb hfb hz1 hz2 hz3 hz4 hb; have hb := hb2; clear hb2) | (have hb := hb'; clear hb')); obtain ⟨hcb, hfb, hz1, hz2, hz3, hz4⟩ := bcell hb; (try simp only [World.size_alloc, World.size_setCell, World.size_drew, Nat.lt_add_one_iff, Nat.add_assoc, Nat.reduceAdd] at hz1 hz2 hz3 hz4))))
              all_goals
                replace R := R.below hb
                replace hbl := bthen hbl hb
                replace h0 : w1.cell? ⟨b0, off + j * 5, none⟩ = some (.int .i64 xi) := (hb.cell (p := ⟨b0, off + j * 5, none⟩) hbr).trans h0
                replace h1 : w1.cell? ⟨b0, off + j * 5 + 1, none⟩ = some (.int .i64 xd) := (hb.cell (p := ⟨b0, off + j * 5 + 1, none⟩) hbr).trans h1
                replace hbr := Nat.lt_of_lt_of_le hbr hb.size
                clear hcb hfb hz1 hz2 hz3 hz4
                have hkl := hk
                have hci := R.cap_le
                have hkc : (0 : Int) ≤ (c0 : Int) := by omega
                have hkli : (0 : Int) ≤ (y.length : Int) := by omega
                have hk0i : (0 : Int) ≤ (0 : Int) := by omega
                have hz := hbl.size
                have hg0 := R.lt _ rfl
                have HRR := Lib.hid R
                have HBL := Lib.hid hbl
                have hSt := Lib.hid (sl_take R.sl 0 hk)
                clear R hbl
                go_wp2_with (at_builtin; refine wpList_append_copy rfl _ _ 121 rfl 124 (.agg #[.int .i64 0, .int .i64 0]) 2 16 Tryz.underlying121 info_Due (by first | kernel_rfl | simp [Value.cells]) (by decide) w1.heap.size rfl w1.heap.size (some ⟨g0, 0, none⟩) 0 c0 ((DU y).take (0 * 2)) rfl (by unfold maxLen; omega) (by omega) (Blk.new_at _ _ _ _ rfl) (Nat.le_refl _) (hSt.out.alloc _) ?_; intro gm cm wm Rm bm lm om)
                have bm2 : Below w1.heap.size w1 wm := btr ((Below.refl _ _).alloc (Nat.le_refl _) _) (bm.mono (by simp))
                have RY := (HRR.out.alloc (.cells #[] 124)).below bm
                have hgm : w1.heap.size ≤ gm := Rm.ge _ rfl
                have HHM := Lib.hid (btr HBL.out (bm2.mono hz))
                clear bm om
                have hm0 : wm.cell? ⟨b0, off + j * 5, none⟩ = some (.int .i64 xi) := (bm2.cell (p := ⟨b0, off + j * 5, none⟩) hbr).trans h0
                have hm1 : wm.cell? ⟨b0, off + j * 5 + 1, none⟩ = some (.int .i64 xd) := (bm2.cell (p := ⟨b0, off + j * 5 + 1, none⟩) hbr).trans h1
                have hbm : b0 < wm.heap.size := Nat.lt_of_lt_of_le hbr bm2.size
                have hbg : b0 ≠ gm := by omega
                clear h0 h1
                have hS0 : ∀ o, wm.cell? ⟨b0, o, none⟩ = wm.cell? ⟨b0, o, none⟩ := fun _ => rfl
                have HRm := Lib.hid Rm
                go_region_held_law (fun w' => ∀ o, w'.cell? ⟨b0, o, none⟩ = wm.cell? ⟨b0, o, none⟩) (repeat' (first | assumption | with_reducible exact hS0 | with_reducible refine heldb_dr ?_ | with_reducible refine heldb_al ?_ ?_ _ | with_reducible refine heldb_wr (by assumption) ?_ ?_ ?_ | (simp; done) | (simp; omega)))
                  (first | (refine step_append_rowS rfl _ _ 121 rfl 124 (.agg #[.int .i64 0, .int .i64 0]) 2 16 Tryz.underlying121 info_Due (by first | kernel_rfl | simp [Value.cells]) (by decide) w1.heap.size gm 0 cm ((DU y).take (0 * 2)) rfl ((HRm.out.drew).alloc _) ⟨wm.heap.size, 0, none⟩ 1 1 [xi, xd] rfl rfl (cell_two_at' _ _ _ _ _ rfl) (by decide) (by unfold maxLen; omega) (by omega) (by have := bm2.size; simp; omega) ?_; intro gn cn wn Rn Wn Ln))
                have bn : Below w1.heap.size w1 wn := Wn.below (btr bm2 (((Below.refl w1.heap.size wm).drew).alloc bm2.size (.cells #[.int .i64 xi, .int .i64 xd] 124))) (by have := bm2.size; simp; omega) (fun x hx => by obtain rfl := Option.some.inj hx; exact hgm)
                have RN := ((RY.drew).alloc (.cells #[.int .i64 xi, .int .i64 xd] 124)).wrote Wn (fun a b ha hb => by injection ha with ha; injection hb with hb; subst ha; subst hb; show g0 ≠ gm; omega)
                clear RY Rm HRm Wn hm0 hm1
                have hzn := bn.size
                have hnews0 := slices_of (sl_drop RN.sl 0 hk) rfl
                simp only [Nat.zero_add] at hnews0
                have hnews := Lib.hid hnews0
                clear hnews0
                have hnewl : ((DU y).drop (0 * 2)).length = (y.length - 0) * 2 := by rw [List.length_drop, DU_len]; omega
                have HF := Lib.hid (show (DU y).take (0 * 2) ++ [xi, xd] ++ (DU y).drop (0 * 2) = DU (insDu y ⟨xi, xd⟩) by
                  have e := hins.out
                  unfold insDu
                  show _ = DU (y.take (kIns y xd) ++ _ :: y.drop (kIns y xd))
                  rw [e, DU_append, DU_cons, DU_take, DU_drop, List.append_assoc]
                  (try rfl))
                have HJ := Lib.hid (show insDu y ⟨xi, xd⟩ = openTo l (j + 1) by rw [hop.out, ← hy.out])
                by_cases hck : c0 = 0
                · have HLK := Lib.hid (show y.length - 0 = 0 by omega)
                  go_wp2_with (at_builtin; refine wpList_append_row2 rfl _ _ 121 rfl 124 (.agg #[.int .i64 0, .int .i64 0]) 2 16 Tryz.underlying121 info_Due (by first | kernel_rfl | simp [Value.cells]) (by decide) w1.heap.size (some ⟨gn, 0, none⟩) (0 + 1) cn ((DU y).take (0 * 2) ++ [xi, xd]) rfl Rn ⟨g0, 0, none⟩ (y.length - 0) _ ((DU y).drop (0 * 2)) rfl hnewl (fun q u hq => by have hx : (DU y).drop (0 * 2) = [] := List.eq_nil_of_length_eq_zero (by rw [hnewl, HLK.out]); rw [hx] at hq; simp [ints] at hq) (by unfold maxLen; omega) (by omega) hzn ?_; intro A5 c5 w5 R5 B5 W5 L5; obtain ⟨g5, cs5, rfl, _⟩ := R5.blk (by omega))
                  rw [HF.out] at R5
                  have hln : 0 + 1 + (y.length - 0) = (insDu y ⟨xi, xd⟩).length := by rw [insDu_len]; omega
                  rw [hln] at R5
                  first
                    | rw [hln]
                    | rw [show 1 + y.length = (insDu y ⟨xi, xd⟩).length by rw [insDu_len]; omega]
                  exact ⟨⟨j + 1, g5, c5, _, by omega, by go_num, rfl, R5.mono hz, HJ, btr HBL.out ((btr bn B5).mono hz)⟩, by simp [intOf]; omega⟩
                · go_wp2_with (at_builtin; refine wpList_append_row2 rfl _ _ 121 rfl 124 (.agg #[.int .i64 0, .int .i64 0]) 2 16 Tryz.underlying121 info_Due (by first | kernel_rfl | simp [Value.cells]) (by decide) w1.heap.size (some ⟨gn, 0, none⟩) (0 + 1) cn ((DU y).take (0 * 2) ++ [xi, xd]) rfl Rn ⟨g0, 0 * 2, none⟩ (y.length - 0) _ ((DU y).drop (0 * 2)) rfl hnewl hnews.out (by unfold maxLen; omega) (by omega) hzn ?_; intro A5 c5 w5 R5 B5 W5 L5; obtain ⟨g5, cs5, rfl, _⟩ := R5.blk (by omega))
                  rw [HF.out] at R5
                  have hln : 0 + 1 + (y.length - 0) = (insDu y ⟨xi, xd⟩).length := by rw [insDu_len]; omega
                  rw [hln] at R5
                  first
                    | rw [hln]
                    | rw [show 1 + y.length = (insDu y ⟨xi, xd⟩).length by rw [insDu_len]; omega]
                  exact ⟨⟨j + 1, g5, c5, _, by omega, by go_num, rfl, R5.mono hz, HJ, btr HBL.out ((btr bn B5).mono hz)⟩, by simp [intOf]; omega⟩
            · obtain ⟨kp, hkp⟩ : ∃ kp : Nat, k = kp + 1 := ⟨k - 1, by omega⟩
              have HKP := Lib.hid hkp
              have hkpl : kp < y.length := by omega
              have hw : IntKind.i64.wrap ((k : Int) - 1) = (kp : Int) := by rw [IntKind.wrap_i64]; omega
              have hkp0 : (0 : Int) ≤ (kp : Int) := by omega
              have hkpi : (kp : Int) < (y.length : Int) := by omega
              have hk0' : (0 : Int) < (k : Int) := by omega
              obtain ⟨b9, off9, hA9, hb9, hc9⟩ := sl_dues R.sl (by omega)
              injection hA9 with hA9
              injection hA9 with hA91 hA92
              subst hA91 hA92
              have hd := (hc9 kp hkpl).2
              simp only [Nat.zero_add] at hd
              clear hc9
              have hunf : kInsF y xd (kp + 1) = if xd < (y.getD kp default).d then kInsF y xd kp else kp + 1 := rfl
              obtain ⟨yd, hyd⟩ : ∃ x, (y.getD kp default).d = x := ⟨_, rfl⟩
              rw [hyd] at hd hunf
              have HUN := Lib.hid hunf
              clear hkp hyd hunf
              by_cases hlt : xd < yd
              · have hki2 := Lib.hid (show kIns y xd = kInsF y xd kp by rw [hki.out, HKP.out, HUN.out, if_pos hlt])
                clear hki
                go_wp2
                ((refine wp_region_ext (by kernel_rfl) (by kernel_rfl) ?_); (repeat (any_goals (first | go_big_quiet_step (fail) | (refine wpQuiet_step (fun K hK => ?_); go_simp; split <;> (refine hK _ ?_; clear hK K)) | quiet_step (fail)))); (all_goals (refine wpQuiet_nil ?_; rintro _ ⟨z, rfl⟩; have hb' := z.h; generalize z.w = w1 at hb' ⊢; clear z; (first | (have hb2 := bstep hb' hb hb.size; clear hb' hcb hfb hz1 hz2 hz3 hz4 hb; have hb := hb2; clear hb2) | (have hb := hb'; clear hb')); obtain ⟨hcb, hfb, hz1, hz2, hz3, hz4⟩ := bcell hb; (try simp only [World.size_alloc, World.size_setCell, World.size_drew, Nat.lt_add_one_iff, Nat.add_assoc, Nat.reduceAdd] at hz1 hz2 hz3 hz4))))
                all_goals go_wp2
                all_goals exact ⟨⟨kp, by omega, by go_num, hki2, R.below hb, bthen hbl hb⟩, by have := HKP.out; simp [intOf]; omega⟩
              · have hins := Lib.hid (show kIns y xd = k by rw [hki.out, HKP.out, HUN.out, if_neg hlt])
                have hdf : decide (xd < yd) = false := decide_eq_false hlt
                clear hki
                go_wp2
                ((refine wp_region_ext (by kernel_rfl) (by kernel_rfl) ?_); (repeat (any_goals (first | go_big_quiet_step (fail) | (refine wpQuiet_step (fun K hK => ?_); go_simp; split <;> (refine hK _ ?_; clear hK K)) | quiet_step (fail)))); (all_goals (refine wpQuiet_nil ?_; rintro _ ⟨z, rfl⟩; have hb' := z.h; generalize z.w = w1 at hb' ⊢; clear z; (first | (have hb2 := bstep hb' hb hb.size; clear hb' hcb hfb hz1 hz2 hz3 hz4 hb; have hb := hb2; clear hb2) | (have hb := hb'; clear hb')); obtain ⟨hcb, hfb, hz1, hz2, hz3, hz4⟩ := bcell hb; (try simp only [World.size_alloc, World.size_setCell, World.size_drew, Nat.lt_add_one_iff, Nat.add_assoc, Nat.reduceAdd] at hz1 hz2 hz3 hz4))))
                all_goals
                  replace R := R.below hb
                  replace hbl := bthen hbl hb
                  replace h0 : w1.cell? ⟨b0, off + j * 5, none⟩ = some (.int .i64 xi) := (hb.cell (p := ⟨b0, off + j * 5, none⟩) hbr).trans h0
                  replace h1 : w1.cell? ⟨b0, off + j * 5 + 1, none⟩ = some (.int .i64 xd) := (hb.cell (p := ⟨b0, off + j * 5 + 1, none⟩) hbr).trans h1
                  replace hbr := Nat.lt_of_lt_of_le hbr hb.size
                  clear hcb hfb hz1 hz2 hz3 hz4 hd
                  have hkl := hk
                  have hci := R.cap_le
                  have hkc : (k : Int) ≤ (c0 : Int) := by omega
                  have hkli : (k : Int) ≤ (y.length : Int) := by omega
                  have hk0i : (0 : Int) ≤ (k : Int) := by omega
                  have hz := hbl.size
                  have hg0 := R.lt _ rfl
                  have HRR := Lib.hid R
                  have HBL := Lib.hid hbl
                  have hSt := Lib.hid (sl_take R.sl k hk)
                  clear R hbl
                  go_wp2_with (at_builtin; refine wpList_append_copy rfl _ _ 121 rfl 124 (.agg #[.int .i64 0, .int .i64 0]) 2 16 Tryz.underlying121 info_Due (by first | kernel_rfl | simp [Value.cells]) (by decide) w1.heap.size rfl w1.heap.size (some ⟨g0, 0, none⟩) k c0 ((DU y).take (k * 2)) rfl (by unfold maxLen; omega) (by omega) (Blk.new_at _ _ _ _ rfl) (Nat.le_refl _) (hSt.out.alloc _) ?_; intro gm cm wm Rm bm lm om)
                  have bm2 : Below w1.heap.size w1 wm := btr ((Below.refl _ _).alloc (Nat.le_refl _) _) (bm.mono (by simp))
                  have RY := (HRR.out.alloc (.cells #[] 124)).below bm
                  have hgm : w1.heap.size ≤ gm := Rm.ge _ rfl
                  have HHM := Lib.hid (btr HBL.out (bm2.mono hz))
                  clear bm om
                  have hm0 : wm.cell? ⟨b0, off + j * 5, none⟩ = some (.int .i64 xi) := (bm2.cell (p := ⟨b0, off + j * 5, none⟩) hbr).trans h0
                  have hm1 : wm.cell? ⟨b0, off + j * 5 + 1, none⟩ = some (.int .i64 xd) := (bm2.cell (p := ⟨b0, off + j * 5 + 1, none⟩) hbr).trans h1
                  have hbm : b0 < wm.heap.size := Nat.lt_of_lt_of_le hbr bm2.size
                  have hbg : b0 ≠ gm := by omega
                  clear h0 h1
                  have hS0 : ∀ o, wm.cell? ⟨b0, o, none⟩ = wm.cell? ⟨b0, o, none⟩ := fun _ => rfl
                  have HRm := Lib.hid Rm
                  go_region_held_law (fun w' => ∀ o, w'.cell? ⟨b0, o, none⟩ = wm.cell? ⟨b0, o, none⟩) (repeat' (first | assumption | with_reducible exact hS0 | with_reducible refine heldb_dr ?_ | with_reducible refine heldb_al ?_ ?_ _ | with_reducible refine heldb_wr (by assumption) ?_ ?_ ?_ | (simp; done) | (simp; omega)))
                    (first | (refine step_append_rowS rfl _ _ 121 rfl 124 (.agg #[.int .i64 0, .int .i64 0]) 2 16 Tryz.underlying121 info_Due (by first | kernel_rfl | simp [Value.cells]) (by decide) w1.heap.size gm k cm ((DU y).take (k * 2)) rfl ((HRm.out.drew).alloc _) ⟨wm.heap.size, 0, none⟩ 1 1 [xi, xd] rfl rfl (cell_two_at' _ _ _ _ _ rfl) (by decide) (by unfold maxLen; omega) (by omega) (by have := bm2.size; simp; omega) ?_; intro gn cn wn Rn Wn Ln))
                  have bn : Below w1.heap.size w1 wn := Wn.below (btr bm2 (((Below.refl w1.heap.size wm).drew).alloc bm2.size (.cells #[.int .i64 xi, .int .i64 xd] 124))) (by have := bm2.size; simp; omega) (fun x hx => by obtain rfl := Option.some.inj hx; exact hgm)
                  have RN := ((RY.drew).alloc (.cells #[.int .i64 xi, .int .i64 xd] 124)).wrote Wn (fun a b ha hb => by injection ha with ha; injection hb with hb; subst ha; subst hb; show g0 ≠ gm; omega)
                  clear RY Rm HRm Wn hm0 hm1
                  have hzn := bn.size
                  have hnews0 := slices_of (sl_drop RN.sl k hk) rfl
                  simp only [Nat.zero_add] at hnews0
                  have hnews := Lib.hid hnews0
                  clear hnews0
                  have hnewl : ((DU y).drop (k * 2)).length = (y.length - k) * 2 := by rw [List.length_drop, DU_len]; omega
                  have HF := Lib.hid (show (DU y).take (k * 2) ++ [xi, xd] ++ (DU y).drop (k * 2) = DU (insDu y ⟨xi, xd⟩) by
                    have e := hins.out
                    unfold insDu
                    show _ = DU (y.take (kIns y xd) ++ _ :: y.drop (kIns y xd))
                    rw [e, DU_append, DU_cons, DU_take, DU_drop, List.append_assoc]
                    (try rfl))
                  have HJ := Lib.hid (show insDu y ⟨xi, xd⟩ = openTo l (j + 1) by rw [hop.out, ← hy.out])
                  by_cases hck : c0 = k
                  · have HLK := Lib.hid (show y.length - k = 0 by omega)
                    go_wp2_with (at_builtin; refine wpList_append_row2 rfl _ _ 121 rfl 124 (.agg #[.int .i64 0, .int .i64 0]) 2 16 Tryz.underlying121 info_Due (by first | kernel_rfl | simp [Value.cells]) (by decide) w1.heap.size (some ⟨gn, 0, none⟩) (k + 1) cn ((DU y).take (k * 2) ++ [xi, xd]) rfl Rn ⟨g0, 0, none⟩ (y.length - k) _ ((DU y).drop (k * 2)) rfl hnewl (fun q u hq => by have hx : (DU y).drop (k * 2) = [] := List.eq_nil_of_length_eq_zero (by rw [hnewl, HLK.out]); rw [hx] at hq; simp [ints] at hq) (by unfold maxLen; omega) (by omega) hzn ?_; intro A5 c5 w5 R5 B5 W5 L5; obtain ⟨g5, cs5, rfl, _⟩ := R5.blk (by omega))
                    rw [HF.out] at R5
                    have hln : k + 1 + (y.length - k) = (insDu y ⟨xi, xd⟩).length := by rw [insDu_len]; omega
                    rw [hln] at R5
                    first
                      | rw [hln]
                      | rw [show 1 + y.length = (insDu y ⟨xi, xd⟩).length by rw [insDu_len]; omega]
                    exact ⟨⟨j + 1, g5, c5, _, by omega, by go_num, rfl, R5.mono hz, HJ, btr HBL.out ((btr bn B5).mono hz)⟩, by simp [intOf]; omega⟩
                  · go_wp2_with (at_builtin; refine wpList_append_row2 rfl _ _ 121 rfl 124 (.agg #[.int .i64 0, .int .i64 0]) 2 16 Tryz.underlying121 info_Due (by first | kernel_rfl | simp [Value.cells]) (by decide) w1.heap.size (some ⟨gn, 0, none⟩) (k + 1) cn ((DU y).take (k * 2) ++ [xi, xd]) rfl Rn ⟨g0, k * 2, none⟩ (y.length - k) _ ((DU y).drop (k * 2)) rfl hnewl hnews.out (by unfold maxLen; omega) (by omega) hzn ?_; intro A5 c5 w5 R5 B5 W5 L5; obtain ⟨g5, cs5, rfl, _⟩ := R5.blk (by omega))
                    rw [HF.out] at R5
                    have hln : k + 1 + (y.length - k) = (insDu y ⟨xi, xd⟩).length := by rw [insDu_len]; omega
                    rw [hln] at R5
                    first
                      | rw [hln]
                      | rw [show 1 + y.length = (insDu y ⟨xi, xd⟩).length by rw [insDu_len]; omega]
                    exact ⟨⟨j + 1, g5, c5, _, by omega, by go_num, rfl, R5.mono hz, HJ, btr HBL.out ((btr bn B5).mono hz)⟩, by simp [intOf]; omega⟩
      · have hjn2 : j = n := by omega
        subst hjn2
        have hjn' : ¬ (j : Int) < (j : Int) := by omega
        go_wp2
        go_ret
        have e1 : y = openL l := by rw [hy.out]; unfold openL; rw [hL.out]
        subst e1
        exact RetRow.mk R hbl
end Go.Proofs.YtokklkmibjpjnaaGreat
namespace Go.Proofs.YtokklkmibjpjnaaGreat
set_option linter.unusedSimpArgs false
set_option linter.unusedVariables false
attribute [local go_sem] n_lt2 n_lt3 n_lt4 n_le2 n_le3
open Go.RowKit

def whoB (x : Int) : Bool := x == 2 || x == 3
def leaseB (h e u : Int) : Bool := (decide (h = 0) && (decide (e = 0) && decide (u = 0))) || (whoB h && (inB e 1 1000 && inB u 1 1001000))
def freeB (h u t : Int) : Bool := decide (h = 0) || decide (u ≤ t)
def freeAtB (h e u t : Int) : Bool := leaseB h e u && (inB t 0 1000000 && freeB h u t)
def holdsB (h e u who ep t : Int) : Bool := leaseB h e u && (inB t 0 1000000 && (!decide (h = 0) && (decide (h = who) && (decide (e = ep) && decide (t < u)))))
def leftI (h e u t : Int) : Int := if leaseB h e u && (inB t 0 1000000 && !freeB h u t) then u - t else 0
def sameLeaseB (h e u h' e' u' : Int) : Bool := leaseB h e u && (decide (h = h') && (decide (e = e') && decide (u = u')))
def grantL (h e u who t long : Int) : (Int × Int × Int) × Bool :=
  if leaseB h e u = true then
    if (whoB who && (inB t 0 1000000 && inB long 1 1000)) = true then
      if h = who then ((h, e, max u (t + long)), true)
      else if (freeB h u t && decide (e < 1000)) = true then ((who, e + 1, t + long), true)
      else ((h, e, u), false)
    else ((h, e, u), false)
  else ((0, 0, 0), false)

theorem lease_bounds {h e u : Int} (hl : leaseB h e u = true) (hh : h ≠ 0) : whoB h = true ∧ 1 ≤ e ∧ e ≤ 1000 ∧ 1 ≤ u ∧ u ≤ 1001000 := by
  unfold leaseB at hl
  simp only [Bool.or_eq_true, Bool.and_eq_true, decide_eq_true_eq, inB_iff] at hl
  rcases hl with hl | ⟨h1, h2, h3⟩
  · exact absurd hl.1 hh
  · exact ⟨h1, h2.1, h2.2, h3.1, h3.2⟩

theorem schedOk_any (x : Int) (w : World) : Calls Tryz.prog 92 #[.int .i64 x] w fun e w' => e = .returned (.bool (whoB x)) ∧ w = w' := by
  go_enter Tryz.func92, Tryz.ntmps92
  go_wp2
  all_goals (go_ret; exact ⟨ret_bool (by first | rfl | (unfold whoB; simp [*])), rfl⟩)
theorem l16Who_any (x : Int) (w : World) : Calls Tryz.prog 69 #[.int .i64 x] w fun e w' => e = .returned (.bool (whoB x)) ∧ w = w' := by
  go_enter Tryz.func69, Tryz.ntmps69
  go_wp2
  all_goals (go_ret; exact ⟨ret_bool (by first | rfl | (unfold whoB; simp [*])), rfl⟩)
theorem l16Time_any (x : Int) (w : World) : Calls Tryz.prog 61 #[.int .i64 x] w fun e w' => e = .returned (.bool (inB x 0 1000000)) ∧ w = w' := by
  go_enter Tryz.func61, Tryz.ntmps61
  go_wp2_with ((go_at_call 60; refine (l1In_any _ _ _ _).mono ?_; rintro e w' ⟨rfl, rfl⟩))
  go_ret; exact ⟨rfl, rfl⟩

set_option maxHeartbeats 400000 in
theorem leaseOk_any (h e u : Int) (w : World) :
    Calls Tryz.prog 78 #[.agg #[.int .i64 h, .int .i64 e, .int .i64 u]] w fun e' w' => e' = .returned (.bool (leaseB h e u)) ∧ Below w.heap.size w w' := by
  go_enter Tryz.func78, Tryz.ntmps78
  go_wp2_with (first | (go_at_call 92; refine (schedOk_any _ _).mono ?_; rintro e w' ⟨rfl, rfl⟩) | (go_at_call 74; refine (between_any _ _ _ _).mono ?_; rintro e w' ⟨rfl, rfl⟩))
  all_goals (go_ret; exact ⟨ret_bool (by unfold leaseB; (first | rfl | (simp [*]; done) | (subst_vars; simp [*]; done) | (simp_all; done))), by (repeat' (first | (with_reducible exact Below.refl _ _) | (with_reducible assumption) | (with_reducible refine Below.alloc ?_ ?_ _) | (with_reducible refine Below.drew ?_) | (with_reducible refine Below.setCell ?_ ?_ _) | (with_reducible refine bstep (by assumption) ?_ ?_) | (with_reducible exact Nat.le_refl _) | omega | (simp [*]; done) | (simp [*]; omega)))⟩)
set_option maxHeartbeats 400000 in
theorem specLeaseOk_any (h e u : Int) (w : World) :
    Calls Tryz.prog 64 #[.agg #[.int .i64 h, .int .i64 e, .int .i64 u]] w fun e' w' => e' = .returned (.bool (leaseB h e u)) ∧ Below w.heap.size w w' := by
  go_enter Tryz.func64, Tryz.ntmps64
  go_wp2_with (first | (go_at_call 69; refine (l16Who_any _ _).mono ?_; rintro e w' ⟨rfl, rfl⟩) | (go_at_call 60; refine (l1In_any _ _ _ _).mono ?_; rintro e w' ⟨rfl, rfl⟩))
  all_goals (go_ret; exact ⟨ret_bool (by unfold leaseB; (first | rfl | (simp [*]; done) | (subst_vars; simp [*]; done) | (simp_all; done))), by (repeat' (first | (with_reducible exact Below.refl _ _) | (with_reducible assumption) | (with_reducible refine Below.alloc ?_ ?_ _) | (with_reducible refine Below.drew ?_) | (with_reducible refine Below.setCell ?_ ?_ _) | (with_reducible refine bstep (by assumption) ?_ ?_) | (with_reducible exact Nat.le_refl _) | omega | (simp [*]; done) | (simp [*]; omega)))⟩)
end Go.Proofs.YtokklkmibjpjnaaGreat
namespace Go.Proofs.YtokklkmibjpjnaaGreat
set_option linter.unusedSimpArgs false
set_option linter.unusedVariables false
attribute [local go_sem] n_lt2 n_lt3 n_lt4 n_le2 n_le3
open Go.RowKit

set_option maxHeartbeats 400000 in
theorem freeAt_any (h e u t : Int) (w : World) :
    Calls Tryz.prog 137 #[.agg #[.int .i64 h, .int .i64 e, .int .i64 u], .int .i64 t] w fun e' w' => e' = .returned (.bool (freeB h u t)) ∧ Below w.heap.size w w' := by
  go_enter Tryz.func137, Tryz.ntmps137
  go_wp2
  all_goals (go_ret; exact ⟨ret_bool (by unfold freeB; (first | rfl | (simp [*]; done) | (subst_vars; simp [*]; done) | (simp_all; done))), by (repeat' (first | (with_reducible exact Below.refl _ _) | (with_reducible assumption) | (with_reducible refine Below.alloc ?_ ?_ _) | (with_reducible refine Below.drew ?_) | (with_reducible refine Below.setCell ?_ ?_ _) | (with_reducible refine bstep (by assumption) ?_ ?_) | (with_reducible exact Nat.le_refl _) | omega | (simp [*]; done) | (simp [*]; omega)))⟩)
set_option maxHeartbeats 400000 in
theorem specFreeAt_any (h e u t : Int) (w : World) :
    Calls Tryz.prog 71 #[.agg #[.int .i64 h, .int .i64 e, .int .i64 u], .int .i64 t] w fun e' w' => e' = .returned (.bool (freeAtB h e u t)) ∧ Below w.heap.size w w' := by
  go_enter Tryz.func71, Tryz.ntmps71
  go_wp2_with (first | (go_at_call 64; refine (specLeaseOk_any _ _ _ _).mono ?_; rintro e w1 ⟨rfl, hb'⟩; (first | (have hb2 := bstep hb' hb hb.size; clear hb' hcb hfb hz1 hz2 hz3 hz4 hb; have hb := hb2; clear hb2) | (have hb := hb'; clear hb')); obtain ⟨hcb, hfb, hz1, hz2, hz3, hz4⟩ := bcell hb; (try simp only [World.size_alloc, World.size_setCell, World.size_drew, Nat.lt_add_one_iff, Nat.add_assoc, Nat.reduceAdd] at hz1 hz2 hz3 hz4)) | (go_at_call 61; refine (l16Time_any _ _).mono ?_; rintro e w' ⟨rfl, rfl⟩))
  all_goals (go_ret; exact ⟨ret_bool (by unfold freeAtB freeB; (first | rfl | (simp [*]; done) | (subst_vars; simp [*]; done) | (simp_all; done))), by (repeat' (first | (with_reducible exact Below.refl _ _) | (with_reducible assumption) | (with_reducible refine Below.alloc ?_ ?_ _) | (with_reducible refine Below.drew ?_) | (with_reducible refine Below.setCell ?_ ?_ _) | (with_reducible refine bstep (by assumption) ?_ ?_) | (with_reducible exact Nat.le_refl _) | omega | (simp [*]; done) | (simp [*]; omega)))⟩)
set_option maxHeartbeats 800000 in
theorem HoldsAt_any (h e u who ep t : Int) (w : World) :
    Calls Tryz.prog 121 #[.agg #[.int .i64 h, .int .i64 e, .int .i64 u], .int .i64 who, .int .i64 ep, .int .i64 t] w fun e' w' => e' = .returned (.bool (holdsB h e u who ep t)) ∧ Below w.heap.size w w' := by
  go_enter Tryz.func121, Tryz.ntmps121
  go_wp2_with (first | (go_at_call 78; refine (leaseOk_any _ _ _ _).mono ?_; rintro e w1 ⟨rfl, hb'⟩; (first | (have hb2 := bstep hb' hb hb.size; clear hb' hcb hfb hz1 hz2 hz3 hz4 hb; have hb := hb2; clear hb2) | (have hb := hb'; clear hb')); obtain ⟨hcb, hfb, hz1, hz2, hz3, hz4⟩ := bcell hb; (try simp only [World.size_alloc, World.size_setCell, World.size_drew, Nat.lt_add_one_iff, Nat.add_assoc, Nat.reduceAdd] at hz1 hz2 hz3 hz4)) | (go_at_call 75; refine (timeOk_any _ _).mono ?_; rintro e w' ⟨rfl, rfl⟩))
  all_goals (go_ret; exact ⟨ret_bool (by unfold holdsB; (first | rfl | (simp [*]; done) | (subst_vars; simp [*]; done) | (simp_all; done))), by (repeat' (first | (with_reducible exact Below.refl _ _) | (with_reducible assumption) | (with_reducible refine Below.alloc ?_ ?_ _) | (with_reducible refine Below.drew ?_) | (with_reducible refine Below.setCell ?_ ?_ _) | (with_reducible refine bstep (by assumption) ?_ ?_) | (with_reducible exact Nat.le_refl _) | omega | (simp [*]; done) | (simp [*]; omega)))⟩)
set_option maxHeartbeats 800000 in
theorem specHoldsAt_any (h e u who ep t : Int) (w : World) :
    Calls Tryz.prog 86 #[.agg #[.int .i64 h, .int .i64 e, .int .i64 u], .int .i64 who, .int .i64 ep, .int .i64 t] w fun e' w' => e' = .returned (.bool (holdsB h e u who ep t)) ∧ Below w.heap.size w w' := by
  go_enter Tryz.func86, Tryz.ntmps86
  go_wp2_with (first | (go_at_call 64; refine (specLeaseOk_any _ _ _ _).mono ?_; rintro e w1 ⟨rfl, hb'⟩; (first | (have hb2 := bstep hb' hb hb.size; clear hb' hcb hfb hz1 hz2 hz3 hz4 hb; have hb := hb2; clear hb2) | (have hb := hb'; clear hb')); obtain ⟨hcb, hfb, hz1, hz2, hz3, hz4⟩ := bcell hb; (try simp only [World.size_alloc, World.size_setCell, World.size_drew, Nat.lt_add_one_iff, Nat.add_assoc, Nat.reduceAdd] at hz1 hz2 hz3 hz4)) | (go_at_call 61; refine (l16Time_any _ _).mono ?_; rintro e w' ⟨rfl, rfl⟩))
  all_goals (go_ret; exact ⟨ret_bool (by unfold holdsB; (first | rfl | (simp [*]; done) | (subst_vars; simp [*]; done) | (simp_all; done))), by (repeat' (first | (with_reducible exact Below.refl _ _) | (with_reducible assumption) | (with_reducible refine Below.alloc ?_ ?_ _) | (with_reducible refine Below.drew ?_) | (with_reducible refine Below.setCell ?_ ?_ _) | (with_reducible refine bstep (by assumption) ?_ ?_) | (with_reducible exact Nat.le_refl _) | omega | (simp [*]; done) | (simp [*]; omega)))⟩)
theorem toLease_any (h e u : Int) (w : World) :
    Calls Tryz.prog 38 #[.agg #[.int .i64 h, .int .i64 e, .int .i64 u]] w fun e' w' => e' = .returned (.agg #[.int .i64 h, .int .i64 e, .int .i64 u]) ∧ Below w.heap.size w w' := by
  go_enter Tryz.func38, Tryz.ntmps38
  go_wp2
  refine bodyPost_ret (v := .agg #[.int .i64 h, .int .i64 e, .int .i64 u]) (by simp [results, Tryz.results38, go_sem]) rfl ⟨rfl, ?_⟩
  (repeat' (first | (with_reducible exact Below.refl _ _) | (with_reducible assumption) | (with_reducible refine Below.alloc ?_ ?_ _) | (with_reducible refine Below.drew ?_) | (with_reducible refine Below.setCell ?_ ?_ _) | (with_reducible refine bstep (by assumption) ?_ ?_) | (with_reducible exact Nat.le_refl _) | omega | (simp [*]; done) | (simp [*]; omega)))
set_option maxHeartbeats 400000 in
theorem eqLease_any (h e u h' e2 u' : Int) (w : World) :
    Calls Tryz.prog 46 #[.agg #[.int .i64 h, .int .i64 e, .int .i64 u], .agg #[.int .i64 h', .int .i64 e2, .int .i64 u']] w fun e' w' => e' = .returned (.bool (decide (h = h') && (decide (e = e2) && decide (u = u')))) ∧ Below w.heap.size w w' := by
  go_enter Tryz.func46, Tryz.ntmps46
  go_wp2
  all_goals (go_ret; exact ⟨ret_bool (by (first | rfl | (simp [*]; done) | (subst_vars; simp [*]; done) | (simp_all; done))), by (repeat' (first | (with_reducible exact Below.refl _ _) | (with_reducible assumption) | (with_reducible refine Below.alloc ?_ ?_ _) | (with_reducible refine Below.drew ?_) | (with_reducible refine Below.setCell ?_ ?_ _) | (with_reducible refine bstep (by assumption) ?_ ?_) | (with_reducible exact Nat.le_refl _) | omega | (simp [*]; done) | (simp [*]; omega)))⟩)
end Go.Proofs.YtokklkmibjpjnaaGreat
namespace Go.Proofs.YtokklkmibjpjnaaGreat
set_option linter.unusedSimpArgs false
set_option linter.unusedVariables false
attribute [local go_sem] n_lt2 n_lt3 n_lt4 n_le2 n_le3
open Go.RowKit
attribute [local go_sem] Ext.cell Ext.frozen

/-- What a call that hands back a State leaves: its two slices are rows of its own. -/
def RetState (w : World) (i0 t0 l0 l1 l2 : Int) (n : Nat) (zp : List Int) (m : Nat) (zq : List Int) (en : Ending) (w' : World) : Prop :=
  ∃ A c B d, en = .returned (.agg #[.int .i64 i0, .int .i64 t0, .slice A n c, .slice B m d, .int .i64 l0, .int .i64 l1, .int .i64 l2]) ∧ Row w' w.heap.size 106 2 A n c zp ∧ Row w' w.heap.size 71 5 B m d zq ∧ (∀ a b, A = some a → B = some b → a.block ≠ b.block) ∧ Below w.heap.size w w'
theorem szState_yes (A : Option Addr) (n c : Nat) (B : Option Addr) (m d : Nat) (i0 t0 l0 l1 l2 : Int) (left : Int) (w : World) (h : (n : Int) + m ≤ left) (hl : left ≤ 1048576) :
    Calls Tryz.prog 6 #[.agg #[.int .i64 i0, .int .i64 t0, .slice A n c, .slice B m d, .int .i64 l0, .int .i64 l1, .int .i64 l2], .int .i64 left] w fun e' w' => e' = .returned (.int .i64 (left - n - m)) ∧ Below w.heap.size w w' := by
  go_enter Tryz.func6, Tryz.ntmps6
  go_wp2_with fail
  refine calls_named ?_
  rintro v0 hv0
  have f0 : Below w.heap.size w v0 := by rw [hv0]; (repeat' (first | (with_reducible exact Below.refl _ _) | (with_reducible assumption) | (with_reducible refine Below.alloc ?_ ?_ _) | (with_reducible refine Below.drew ?_) | (with_reducible refine Below.setCell ?_ ?_ _) | (with_reducible refine bstep (by assumption) ?_ ?_) | (with_reducible exact Nat.le_refl _) | omega | (simp [*]; done) | (simp [*]; omega)))
  have z0 : w.heap.size + 1 ≤ v0.heap.size := by rw [hv0]; simp [size_set]
  have Ha_0 : Hid (Blk v0 w.heap.size 27 #[.int .i64 i0, .int .i64 t0, .slice A n c, .slice B m d, .int .i64 l0, .int .i64 l1, .int .i64 l2]) := by rw [hv0]; exact Blk.new_at _ _ _ _ (by simp)
  clear hv0
  have lt_a := Ha_0.out.lt
  obtain ⟨r_a0, r_a1, r_a2, r_a3, r_a4, r_a5, r_a6⟩ := bc7 Ha_0.out
  refine (szPairS_yes _ _ _ _ _ (by omega) (by omega)).mono ?_
  rintro e v' ⟨rfl, rfl⟩
  go_wp2_with fail
  refine (szJobS_yes _ _ _ _ _ (by omega) (by omega)).mono ?_
  rintro e v' ⟨rfl, rfl⟩
  go_wp2
  go_ret
  exact ⟨rfl, f0⟩
theorem szState_no1 (A : Option Addr) (n c : Nat) (B : Option Addr) (m d : Nat) (i0 t0 l0 l1 l2 : Int) (left : Int) (w : World) (h : left < (n : Int)) (h0 : 0 ≤ left) (hl : left ≤ 1048576) (hm : n ≤ maxLen) :
    Calls Tryz.prog 6 #[.agg #[.int .i64 i0, .int .i64 t0, .slice A n c, .slice B m d, .int .i64 l0, .int .i64 l1, .int .i64 l2], .int .i64 left] w fun e' w' => e' = .returned (.int .i64 (-1)) ∧ Below w.heap.size w w' := by
  go_enter Tryz.func6, Tryz.ntmps6
  go_wp2_with fail
  refine calls_named ?_
  rintro v0 hv0
  have f0 : Below w.heap.size w v0 := by rw [hv0]; (repeat' (first | (with_reducible exact Below.refl _ _) | (with_reducible assumption) | (with_reducible refine Below.alloc ?_ ?_ _) | (with_reducible refine Below.drew ?_) | (with_reducible refine Below.setCell ?_ ?_ _) | (with_reducible refine bstep (by assumption) ?_ ?_) | (with_reducible exact Nat.le_refl _) | omega | (simp [*]; done) | (simp [*]; omega)))
  have z0 : w.heap.size + 1 ≤ v0.heap.size := by rw [hv0]; simp [size_set]
  have Ha_0 : Hid (Blk v0 w.heap.size 27 #[.int .i64 i0, .int .i64 t0, .slice A n c, .slice B m d, .int .i64 l0, .int .i64 l1, .int .i64 l2]) := by rw [hv0]; exact Blk.new_at _ _ _ _ (by simp)
  clear hv0
  have lt_a := Ha_0.out.lt
  obtain ⟨r_a0, r_a1, r_a2, r_a3, r_a4, r_a5, r_a6⟩ := bc7 Ha_0.out
  refine (szPairS_no _ _ _ _ _ (by omega) (by omega) (by omega) hm).mono ?_
  rintro e v' ⟨rfl, rfl⟩
  go_wp2
  go_ret
  exact ⟨rfl, f0⟩
theorem szState_no2 (A : Option Addr) (n c : Nat) (B : Option Addr) (m d : Nat) (i0 t0 l0 l1 l2 : Int) (left : Int) (w : World) (h1 : (n : Int) ≤ left) (h : left - n < (m : Int)) (hl : left ≤ 1048576) (hm : m ≤ maxLen) :
    Calls Tryz.prog 6 #[.agg #[.int .i64 i0, .int .i64 t0, .slice A n c, .slice B m d, .int .i64 l0, .int .i64 l1, .int .i64 l2], .int .i64 left] w fun e' w' => e' = .returned (.int .i64 (-1)) ∧ Below w.heap.size w w' := by
  go_enter Tryz.func6, Tryz.ntmps6
  go_wp2_with fail
  refine calls_named ?_
  rintro v0 hv0
  have f0 : Below w.heap.size w v0 := by rw [hv0]; (repeat' (first | (with_reducible exact Below.refl _ _) | (with_reducible assumption) | (with_reducible refine Below.alloc ?_ ?_ _) | (with_reducible refine Below.drew ?_) | (with_reducible refine Below.setCell ?_ ?_ _) | (with_reducible refine bstep (by assumption) ?_ ?_) | (with_reducible exact Nat.le_refl _) | omega | (simp [*]; done) | (simp [*]; omega)))
  have z0 : w.heap.size + 1 ≤ v0.heap.size := by rw [hv0]; simp [size_set]
  have Ha_0 : Hid (Blk v0 w.heap.size 27 #[.int .i64 i0, .int .i64 t0, .slice A n c, .slice B m d, .int .i64 l0, .int .i64 l1, .int .i64 l2]) := by rw [hv0]; exact Blk.new_at _ _ _ _ (by simp)
  clear hv0
  have lt_a := Ha_0.out.lt
  obtain ⟨r_a0, r_a1, r_a2, r_a3, r_a4, r_a5, r_a6⟩ := bc7 Ha_0.out
  refine (szPairS_yes _ _ _ _ _ (by omega) (by omega)).mono ?_
  rintro e v' ⟨rfl, rfl⟩
  go_wp2_with fail
  refine (szJobS_no _ _ _ _ _ (by omega) (by omega) (by omega) hm).mono ?_
  rintro e v' ⟨rfl, rfl⟩
  go_wp2
  go_ret
  exact ⟨rfl, f0⟩
set_option maxRecDepth 100000 in
set_option maxHeartbeats 2000000 in
theorem toState_any (A : Option Addr) (n c : Nat) (B : Option Addr) (m d : Nat) (i0 t0 l0 l1 l2 : Int) (zp zq : List Int) (w : World) (hP : Sl w 2 A n zp) (hQ : Sl w 5 B m zq) (hn : n ≤ 1048576) (hm : m ≤ 1048576) :
    Calls Tryz.prog 8 #[.agg #[.int .i64 i0, .int .i64 t0, .slice A n c, .slice B m d, .int .i64 l0, .int .i64 l1, .int .i64 l2]] w (RetState w i0 t0 l0 l1 l2 n zp m zq) := by
  have HP := Lib.hid hP
  have HQ := Lib.hid hQ
  clear hP hQ
  go_enter Tryz.func8, Tryz.ntmps8
  go_wp2_with fail
  refine calls_named ?_
  rintro v0 hv0
  have f0 : Below w.heap.size w v0 := by rw [hv0]; (repeat' (first | (with_reducible exact Below.refl _ _) | (with_reducible assumption) | (with_reducible refine Below.alloc ?_ ?_ _) | (with_reducible refine Below.drew ?_) | (with_reducible refine Below.setCell ?_ ?_ _) | (with_reducible refine bstep (by assumption) ?_ ?_) | (with_reducible exact Nat.le_refl _) | omega | (simp [*]; done) | (simp [*]; omega)))
  have z0 : w.heap.size + 3 ≤ v0.heap.size := by rw [hv0]; simp [size_set]
  have HP_0 := Lib.hid (HP.out.below f0)
  have HP_lt := Lib.hid (fun hn => HP.out.lt hn)
  have HQ_0 := Lib.hid (HQ.out.below f0)
  have HQ_lt := Lib.hid (fun hn => HQ.out.lt hn)
  have Ha_0 : Hid (Blk v0 w.heap.size 27 #[.int .i64 i0, .int .i64 t0, .slice A n c, .slice B m d, .int .i64 l0, .int .i64 l1, .int .i64 l2]) := by rw [hv0]; exact ((Blk.new_at _ _ _ _ (by simp)).alloc _).alloc _
  have Hr_0 : Hid (Blk v0 (w.heap.size + 1) 37 #[.int .i64 0, .int .i64 0, .slice none 0 0, .slice none 0 0, .int .i64 0, .int .i64 0, .int .i64 0]) := by rw [hv0]; exact (Blk.new_at _ _ _ _ (by simp)).alloc _
  have Ho_0 : Hid (Blk v0 (w.heap.size + 1 + 1) 37 #[.int .i64 i0, .int .i64 t0, .slice none 0 0, .slice none 0 0, .int .i64 0, .int .i64 0, .int .i64 0]) := by rw [hv0]; exact Blk.new_at _ _ _ _ (by simp)
  clear hv0
  generalize hg2 : w.heap.size + 1 + 1 = g2 at *
  generalize hg1 : w.heap.size + 1 = g1 at *
  have lg1 : w.heap.size < g1 := by omega
  have lg2 : g1 < g2 := by omega
  have lgz : g2 < v0.heap.size := by omega
  have nq1x0 : ¬ g1 = w.heap.size := by omega
  have nq0x1 : ¬ w.heap.size = g1 := by omega
  have nq2x0 : ¬ g2 = w.heap.size := by omega
  have nq0x2 : ¬ w.heap.size = g2 := by omega
  have nq2x1 : ¬ g2 = g1 := by omega
  have nq1x2 : ¬ g1 = g2 := by omega
  clear hg1 hg2
  refine (toPairS_any A n c zp _ HP_0.out (by omega)).mono ?_
  rintro e v1 ⟨A1, c1, rfl, Rx, b1⟩
  have f1 := bthen f0 b1
  have z1 := b1.size
  have HP_1 := Lib.hid (HP_0.out.below b1)
  have HQ_1 := Lib.hid (HQ_0.out.below b1)
  have Ha_1 := Lib.hid (Ha_0.out.below b1)
  have Hr_1 := Lib.hid (Hr_0.out.below b1)
  have Ho_1 := Lib.hid (Ho_0.out.below b1)
  clear HP_0 HQ_0 Ha_0 Hr_0 Ho_0
  have Hx_1 := Lib.hid Rx
  clear Rx
  have Lx := Lib.hid (Hx_1.out.lt)
  have lt_a := Ha_1.out.lt
  obtain ⟨r_a0, r_a1, r_a2, r_a3, r_a4, r_a5, r_a6⟩ := bc7 Ha_1.out
  obtain ⟨z_o0, z_o1, z_o2, z_o3, z_o4, z_o5, z_o6⟩ := bf7 Ho_1.out
  have lt_o := Ho_1.out.lt
  obtain ⟨r_o0, r_o1, r_o2, r_o3, r_o4, r_o5, r_o6⟩ := bc7 Ho_1.out
  go_wp2_with fail
  refine calls_named ?_
  rintro v2 hv2
  have f2 : Below w.heap.size w v2 := by rw [hv2]; (repeat' (first | (with_reducible exact Below.refl _ _) | (with_reducible assumption) | (with_reducible refine Below.alloc ?_ ?_ _) | (with_reducible refine Below.drew ?_) | (with_reducible refine Below.setCell ?_ ?_ _) | (with_reducible refine bstep (by assumption) ?_ ?_) | (with_reducible exact Nat.le_refl _) | omega | (simp [*]; done) | (simp [*]; omega)))
  have z2 : v1.heap.size + 0 ≤ v2.heap.size := by rw [hv2]; simp [size_set]
  have HP_2 : Hid (Sl v2 2 A n zp) := by rw [hv2]; exact (HP_1.out).far (p := ⟨g2, 2, none⟩) (fun hn a ha => by have := HP_lt.out hn a ha; show a.block ≠ g2; omega) _
  have HQ_2 : Hid (Sl v2 5 B m zq) := by rw [hv2]; exact (HQ_1.out).far (p := ⟨g2, 2, none⟩) (fun hn a ha => by have := HQ_lt.out hn a ha; show a.block ≠ g2; omega) _
  have Ha_2 : Hid (Blk v2 w.heap.size 27 #[.int .i64 i0, .int .i64 t0, .slice A n c, .slice B m d, .int .i64 l0, .int .i64 l1, .int .i64 l2]) := by rw [hv2]; exact (Ha_1.out).far (p := ⟨g2, 2, none⟩) (show w.heap.size ≠ g2 by omega) _
  have Hr_2 : Hid (Blk v2 g1 37 #[.int .i64 0, .int .i64 0, .slice none 0 0, .slice none 0 0, .int .i64 0, .int .i64 0, .int .i64 0]) := by rw [hv2]; exact (Hr_1.out).far (p := ⟨g2, 2, none⟩) (show g1 ≠ g2 by omega) _
  have Ho_2 : Hid (Blk v2 g2 37 #[.int .i64 i0, .int .i64 t0, .slice A1 n c1, .slice none 0 0, .int .i64 0, .int .i64 0, .int .i64 0]) := by rw [hv2]; exact (Ho_1.out).set_ 2 _
  have Hx_2 : Hid (Row v2 v0.heap.size 106 2 A1 n c1 zp) := by rw [hv2]; exact (Hx_1.out).far (p := ⟨g2, 2, none⟩) (fun a ha => by have := (Hx_1.out).ge a ha; show a.block ≠ g2; omega) _
  clear lt_a r_a0 r_a1 r_a2 r_a3 r_a4 r_a5 r_a6 z_o0 z_o1 z_o2 z_o3 z_o4 z_o5 z_o6 lt_o r_o0 r_o1 r_o2 r_o3 r_o4 r_o5 r_o6
  clear hv2 HP_1 HQ_1 Ha_1 Hr_1 Ho_1 Hx_1
  refine (toJobS_any B m d zq _ HQ_2.out (by omega)).mono ?_
  rintro e v3 ⟨B1, d1, rfl, Ry, b3⟩
  have f3 := bthen f2 b3
  have z3 := b3.size
  have HP_3 := Lib.hid (HP_2.out.below b3)
  have HQ_3 := Lib.hid (HQ_2.out.below b3)
  have Ha_3 := Lib.hid (Ha_2.out.below b3)
  have Hr_3 := Lib.hid (Hr_2.out.below b3)
  have Ho_3 := Lib.hid (Ho_2.out.below b3)
  have Hx_3 := Lib.hid (Hx_2.out.below b3)
  clear HP_2 HQ_2 Ha_2 Hr_2 Ho_2 Hx_2
  have Hy_3 := Lib.hid Ry
  clear Ry
  have hap : ∀ a b, A1 = some a → B1 = some b → a.block ≠ b.block := fun a b ha hb => by
    have h1 := Lx.out a ha
    have h2 := Hy_3.out.ge b hb
    omega
  have HAP := Lib.hid hap
  clear hap
  have lt_a := Ha_3.out.lt
  obtain ⟨r_a0, r_a1, r_a2, r_a3, r_a4, r_a5, r_a6⟩ := bc7 Ha_3.out
  obtain ⟨z_o0, z_o1, z_o2, z_o3, z_o4, z_o5, z_o6⟩ := bf7 Ho_3.out
  have lt_o := Ho_3.out.lt
  obtain ⟨r_o0, r_o1, r_o2, r_o3, r_o4, r_o5, r_o6⟩ := bc7 Ho_3.out
  go_wp2_with fail
  refine calls_named ?_
  rintro v4 hv4
  have f4 : Below w.heap.size w v4 := by rw [hv4]; (repeat' (first | (with_reducible exact Below.refl _ _) | (with_reducible assumption) | (with_reducible refine Below.alloc ?_ ?_ _) | (with_reducible refine Below.drew ?_) | (with_reducible refine Below.setCell ?_ ?_ _) | (with_reducible refine bstep (by assumption) ?_ ?_) | (with_reducible exact Nat.le_refl _) | omega | (simp [*]; done) | (simp [*]; omega)))
  have z4 : v3.heap.size + 0 ≤ v4.heap.size := by rw [hv4]; simp [size_set]
  have HP_4 : Hid (Sl v4 2 A n zp) := by rw [hv4]; exact (HP_3.out).far (p := ⟨g2, 3, none⟩) (fun hn a ha => by have := HP_lt.out hn a ha; show a.block ≠ g2; omega) _
  have HQ_4 : Hid (Sl v4 5 B m zq) := by rw [hv4]; exact (HQ_3.out).far (p := ⟨g2, 3, none⟩) (fun hn a ha => by have := HQ_lt.out hn a ha; show a.block ≠ g2; omega) _
  have Ha_4 : Hid (Blk v4 w.heap.size 27 #[.int .i64 i0, .int .i64 t0, .slice A n c, .slice B m d, .int .i64 l0, .int .i64 l1, .int .i64 l2]) := by rw [hv4]; exact (Ha_3.out).far (p := ⟨g2, 3, none⟩) (show w.heap.size ≠ g2 by omega) _
  have Hr_4 : Hid (Blk v4 g1 37 #[.int .i64 0, .int .i64 0, .slice none 0 0, .slice none 0 0, .int .i64 0, .int .i64 0, .int .i64 0]) := by rw [hv4]; exact (Hr_3.out).far (p := ⟨g2, 3, none⟩) (show g1 ≠ g2 by omega) _
  have Ho_4 : Hid (Blk v4 g2 37 #[.int .i64 i0, .int .i64 t0, .slice A1 n c1, .slice B1 m d1, .int .i64 0, .int .i64 0, .int .i64 0]) := by rw [hv4]; exact (Ho_3.out).set_ 3 _
  have Hx_4 : Hid (Row v4 v0.heap.size 106 2 A1 n c1 zp) := by rw [hv4]; exact (Hx_3.out).far (p := ⟨g2, 3, none⟩) (fun a ha => by have := (Hx_3.out).ge a ha; show a.block ≠ g2; omega) _
  have Hy_4 : Hid (Row v4 v2.heap.size 71 5 B1 m d1 zq) := by rw [hv4]; exact (Hy_3.out).far (p := ⟨g2, 3, none⟩) (fun a ha => by have := (Hy_3.out).ge a ha; show a.block ≠ g2; omega) _
  clear lt_a r_a0 r_a1 r_a2 r_a3 r_a4 r_a5 r_a6 z_o0 z_o1 z_o2 z_o3 z_o4 z_o5 z_o6 lt_o r_o0 r_o1 r_o2 r_o3 r_o4 r_o5 r_o6
  clear hv4 HP_3 HQ_3 Ha_3 Hr_3 Ho_3 Hx_3 Hy_3
  refine (toLease_any l0 l1 l2 _).mono ?_
  rintro e v5 ⟨rfl, b5⟩
  have f5 := bthen f4 b5
  have z5 := b5.size
  have HP_5 := Lib.hid (HP_4.out.below b5)
  have HQ_5 := Lib.hid (HQ_4.out.below b5)
  have Ha_5 := Lib.hid (Ha_4.out.below b5)
  have Hr_5 := Lib.hid (Hr_4.out.below b5)
  have Ho_5 := Lib.hid (Ho_4.out.below b5)
  have Hx_5 := Lib.hid (Hx_4.out.below b5)
  have Hy_5 := Lib.hid (Hy_4.out.below b5)
  clear HP_4 HQ_4 Ha_4 Hr_4 Ho_4 Hx_4 Hy_4
  have lt_a := Ha_5.out.lt
  obtain ⟨r_a0, r_a1, r_a2, r_a3, r_a4, r_a5, r_a6⟩ := bc7 Ha_5.out
  obtain ⟨z_o0, z_o1, z_o2, z_o3, z_o4, z_o5, z_o6⟩ := bf7 Ho_5.out
  have lt_o := Ho_5.out.lt
  obtain ⟨r_o0, r_o1, r_o2, r_o3, r_o4, r_o5, r_o6⟩ := bc7 Ho_5.out
  obtain ⟨z_r0, z_r1, z_r2, z_r3, z_r4, z_r5, z_r6⟩ := bf7 Hr_5.out
  have lt_r := Hr_5.out.lt
  obtain ⟨r_r0, r_r1, r_r2, r_r3, r_r4, r_r5, r_r6⟩ := bc7 Hr_5.out
  go_wp21
  refine bodyPost_ret (v := .agg #[.int .i64 i0, .int .i64 t0, .slice A1 n c1, .slice B1 m d1, .int .i64 l0, .int .i64 l1, .int .i64 l2]) (by simp [results, Tryz.results8, go_sem, *]) rfl ?_
  exact ⟨A1, c1, B1, d1, rfl, (((((((((((Hx_5.out).far (p := ⟨g2, 4, none⟩) (fun a ha => by have := (Hx_5.out).ge a ha; show a.block ≠ g2; omega) _).far (p := ⟨g2, 5, none⟩) (fun a ha => by have := (Hx_5.out).ge a ha; show a.block ≠ g2; omega) _).far (p := ⟨g2, 6, none⟩) (fun a ha => by have := (Hx_5.out).ge a ha; show a.block ≠ g2; omega) _).far (p := ⟨g1, 0, none⟩) (fun a ha => by have := (Hx_5.out).ge a ha; show a.block ≠ g1; omega) _).far (p := ⟨g1, 1, none⟩) (fun a ha => by have := (Hx_5.out).ge a ha; show a.block ≠ g1; omega) _).far (p := ⟨g1, 2, none⟩) (fun a ha => by have := (Hx_5.out).ge a ha; show a.block ≠ g1; omega) _).far (p := ⟨g1, 3, none⟩) (fun a ha => by have := (Hx_5.out).ge a ha; show a.block ≠ g1; omega) _).far (p := ⟨g1, 4, none⟩) (fun a ha => by have := (Hx_5.out).ge a ha; show a.block ≠ g1; omega) _).far (p := ⟨g1, 5, none⟩) (fun a ha => by have := (Hx_5.out).ge a ha; show a.block ≠ g1; omega) _).far (p := ⟨g1, 6, none⟩) (fun a ha => by have := (Hx_5.out).ge a ha; show a.block ≠ g1; omega) _).mono (by omega), (((((((((((Hy_5.out).far (p := ⟨g2, 4, none⟩) (fun a ha => by have := (Hy_5.out).ge a ha; show a.block ≠ g2; omega) _).far (p := ⟨g2, 5, none⟩) (fun a ha => by have := (Hy_5.out).ge a ha; show a.block ≠ g2; omega) _).far (p := ⟨g2, 6, none⟩) (fun a ha => by have := (Hy_5.out).ge a ha; show a.block ≠ g2; omega) _).far (p := ⟨g1, 0, none⟩) (fun a ha => by have := (Hy_5.out).ge a ha; show a.block ≠ g1; omega) _).far (p := ⟨g1, 1, none⟩) (fun a ha => by have := (Hy_5.out).ge a ha; show a.block ≠ g1; omega) _).far (p := ⟨g1, 2, none⟩) (fun a ha => by have := (Hy_5.out).ge a ha; show a.block ≠ g1; omega) _).far (p := ⟨g1, 3, none⟩) (fun a ha => by have := (Hy_5.out).ge a ha; show a.block ≠ g1; omega) _).far (p := ⟨g1, 4, none⟩) (fun a ha => by have := (Hy_5.out).ge a ha; show a.block ≠ g1; omega) _).far (p := ⟨g1, 5, none⟩) (fun a ha => by have := (Hy_5.out).ge a ha; show a.block ≠ g1; omega) _).far (p := ⟨g1, 6, none⟩) (fun a ha => by have := (Hy_5.out).ge a ha; show a.block ≠ g1; omega) _).mono (by omega), HAP.out, by (repeat' (first | (with_reducible exact Below.refl _ _) | (with_reducible assumption) | (with_reducible refine Below.alloc ?_ ?_ _) | (with_reducible refine Below.drew ?_) | (with_reducible refine Below.setCell ?_ ?_ _) | (with_reducible refine bstep (by assumption) ?_ ?_) | (with_reducible exact Nat.le_refl _) | omega | (simp [*]; done) | (simp [*]; omega)))⟩
set_option maxRecDepth 100000 in
set_option maxHeartbeats 2000000 in
theorem eqState_same (A A2 : Option Addr) (n c c2 : Nat) (B B2 : Option Addr) (m d d2 : Nat) (i0 t0 l0 l1 l2 : Int) (zp zq : List Int) (w : World) (hP : Sl w 2 A n zp) (hQ : Sl w 5 B m zq) (hU : Sl w 2 A2 n zp) (hW : Sl w 5 B2 m zq) (hm0 : n ≤ maxLen) (hm1 : m ≤ maxLen) :
    Calls Tryz.prog 11 #[.agg #[.int .i64 i0, .int .i64 t0, .slice A n c, .slice B m d, .int .i64 l0, .int .i64 l1, .int .i64 l2], .agg #[.int .i64 i0, .int .i64 t0, .slice A2 n c2, .slice B2 m d2, .int .i64 l0, .int .i64 l1, .int .i64 l2]] w fun e' w' => e' = .returned (.bool true) ∧ Below w.heap.size w w' := by
  have HP := Lib.hid hP
  have HQ := Lib.hid hQ
  have HU := Lib.hid hU
  have HW := Lib.hid hW
  clear hP hQ hU hW
  have ez := eqL_self zp
  have eq := eqL_self zq
  go_enter Tryz.func11, Tryz.ntmps11
  go_wp2_with fail
  refine calls_named ?_
  rintro v0 hv0
  have f0 : Below w.heap.size w v0 := by rw [hv0]; (repeat' (first | (with_reducible exact Below.refl _ _) | (with_reducible assumption) | (with_reducible refine Below.alloc ?_ ?_ _) | (with_reducible refine Below.drew ?_) | (with_reducible refine Below.setCell ?_ ?_ _) | (with_reducible refine bstep (by assumption) ?_ ?_) | (with_reducible exact Nat.le_refl _) | omega | (simp [*]; done) | (simp [*]; omega)))
  have z0 : w.heap.size + 2 ≤ v0.heap.size := by rw [hv0]; simp [size_set]
  have HP_0 := Lib.hid (HP.out.below f0)
  have HP_lt := Lib.hid (fun hn => HP.out.lt hn)
  have HQ_0 := Lib.hid (HQ.out.below f0)
  have HQ_lt := Lib.hid (fun hn => HQ.out.lt hn)
  have HU_0 := Lib.hid (HU.out.below f0)
  have HU_lt := Lib.hid (fun hn => HU.out.lt hn)
  have HW_0 := Lib.hid (HW.out.below f0)
  have HW_lt := Lib.hid (fun hn => HW.out.lt hn)
  have Ha_0 : Hid (Blk v0 w.heap.size 37 #[.int .i64 i0, .int .i64 t0, .slice A n c, .slice B m d, .int .i64 l0, .int .i64 l1, .int .i64 l2]) := by rw [hv0]; exact (Blk.new_at _ _ _ _ (by simp)).alloc _
  have Hb_0 : Hid (Blk v0 (w.heap.size + 1) 37 #[.int .i64 i0, .int .i64 t0, .slice A2 n c2, .slice B2 m d2, .int .i64 l0, .int .i64 l1, .int .i64 l2]) := by rw [hv0]; exact Blk.new_at _ _ _ _ (by simp)
  clear hv0
  generalize hg1 : w.heap.size + 1 = g1 at *
  have lg1 : w.heap.size < g1 := by omega
  have lgz : g1 < v0.heap.size := by omega
  have nq1x0 : ¬ g1 = w.heap.size := by omega
  have nq0x1 : ¬ w.heap.size = g1 := by omega
  clear hg1
  have lt_a := Ha_0.out.lt
  obtain ⟨r_a0, r_a1, r_a2, r_a3, r_a4, r_a5, r_a6⟩ := bc7 Ha_0.out
  have lt_b := Hb_0.out.lt
  obtain ⟨r_b0, r_b1, r_b2, r_b3, r_b4, r_b5, r_b6⟩ := bc7 Hb_0.out
  refine (eqPairS_any A A2 n n c c2 zp zp _ HP_0.out HU_0.out hm0 hm0).mono ?_
  rintro e v1 ⟨rfl, b1⟩
  have f1 := bthen f0 b1
  have z1 := b1.size
  have HP_1 := Lib.hid (HP_0.out.below b1)
  have HQ_1 := Lib.hid (HQ_0.out.below b1)
  have HU_1 := Lib.hid (HU_0.out.below b1)
  have HW_1 := Lib.hid (HW_0.out.below b1)
  have Ha_1 := Lib.hid (Ha_0.out.below b1)
  have Hb_1 := Lib.hid (Hb_0.out.below b1)
  clear lt_a r_a0 r_a1 r_a2 r_a3 r_a4 r_a5 r_a6 lt_b r_b0 r_b1 r_b2 r_b3 r_b4 r_b5 r_b6
  clear HP_0 HQ_0 HU_0 HW_0 Ha_0 Hb_0
  have lt_a := Ha_1.out.lt
  obtain ⟨r_a0, r_a1, r_a2, r_a3, r_a4, r_a5, r_a6⟩ := bc7 Ha_1.out
  have lt_b := Hb_1.out.lt
  obtain ⟨r_b0, r_b1, r_b2, r_b3, r_b4, r_b5, r_b6⟩ := bc7 Hb_1.out
  go_wp2_with fail
  refine (eqJobS_any B B2 m m d d2 zq zq _ HQ_1.out HW_1.out hm1 hm1).mono ?_
  rintro e v2 ⟨rfl, b2⟩
  have f2 := bthen f1 b2
  have z2 := b2.size
  have HP_2 := Lib.hid (HP_1.out.below b2)
  have HQ_2 := Lib.hid (HQ_1.out.below b2)
  have HU_2 := Lib.hid (HU_1.out.below b2)
  have HW_2 := Lib.hid (HW_1.out.below b2)
  have Ha_2 := Lib.hid (Ha_1.out.below b2)
  have Hb_2 := Lib.hid (Hb_1.out.below b2)
  clear lt_a r_a0 r_a1 r_a2 r_a3 r_a4 r_a5 r_a6 lt_b r_b0 r_b1 r_b2 r_b3 r_b4 r_b5 r_b6
  clear HP_1 HQ_1 HU_1 HW_1 Ha_1 Hb_1
  have lt_a := Ha_2.out.lt
  obtain ⟨r_a0, r_a1, r_a2, r_a3, r_a4, r_a5, r_a6⟩ := bc7 Ha_2.out
  have lt_b := Hb_2.out.lt
  obtain ⟨r_b0, r_b1, r_b2, r_b3, r_b4, r_b5, r_b6⟩ := bc7 Hb_2.out
  go_wp2_with fail
  have el := eqL_self [l0, l1, l2]
  refine (eqLease_any l0 l1 l2 l0 l1 l2 _).mono ?_
  rintro e v3 ⟨rfl, b3⟩
  have f3 := bthen f2 b3
  have z3 := b3.size
  have HP_3 := Lib.hid (HP_2.out.below b3)
  have HQ_3 := Lib.hid (HQ_2.out.below b3)
  have HU_3 := Lib.hid (HU_2.out.below b3)
  have HW_3 := Lib.hid (HW_2.out.below b3)
  have Ha_3 := Lib.hid (Ha_2.out.below b3)
  have Hb_3 := Lib.hid (Hb_2.out.below b3)
  clear lt_a r_a0 r_a1 r_a2 r_a3 r_a4 r_a5 r_a6 lt_b r_b0 r_b1 r_b2 r_b3 r_b4 r_b5 r_b6
  clear HP_2 HQ_2 HU_2 HW_2 Ha_2 Hb_2
  have lt_a := Ha_3.out.lt
  obtain ⟨r_a0, r_a1, r_a2, r_a3, r_a4, r_a5, r_a6⟩ := bc7 Ha_3.out
  have lt_b := Hb_3.out.lt
  obtain ⟨r_b0, r_b1, r_b2, r_b3, r_b4, r_b5, r_b6⟩ := bc7 Hb_3.out
  go_wp2
  go_ret
  exact ⟨rfl, f3⟩
end Go.Proofs.YtokklkmibjpjnaaGreat
namespace Go.Proofs.YtokklkmibjpjnaaGreat
set_option linter.unusedSimpArgs false
set_option linter.unusedVariables false
attribute [local go_sem] n_lt2 n_lt3 n_lt4 n_le2 n_le3
open Go.RowKit
def firedIn (ql : List Jb) (i0 : Int) : Bool := (List.range ql.length).all fun i => decide ((ql.getD i default).f ≤ i0)
def stateB (i0 t0 l0 l1 l2 : Int) (pl : List Pr) (ql : List Jb) : Bool := inB i0 0 2000 && (inB t0 0 1000000 && (pairsB pl && (jobsB ql && (leaseB l0 l1 l2 && firedIn ql i0))))
attribute [local go_sem] Ext.cell Ext.frozen
set_option maxRecDepth 100000 in
set_option maxHeartbeats 4000000 in
theorem stateOk_any (A : Option Addr) (n c : Nat) (B : Option Addr) (m d : Nat) (i0 t0 l0 l1 l2 : Int) (pl : List Pr) (ql : List Jb) (w : World) (hP : Sl w 2 A n (PR pl)) (hQ : Sl w 5 B m (JB ql)) (hl : pl.length = n) (hr : ql.length = m) (hn : n ≤ maxLen) (hm : m ≤ maxLen) :
    Calls Tryz.prog 40 #[.agg #[.int .i64 i0, .int .i64 t0, .slice A n c, .slice B m d, .int .i64 l0, .int .i64 l1, .int .i64 l2]] w fun e' w' => e' = .returned (.bool (stateB i0 t0 l0 l1 l2 pl ql)) ∧ Below w.heap.size w w' := by
  have hL := Lib.hid hl
  have hR := Lib.hid hr
  have HP := Lib.hid hP
  have HQ := Lib.hid hQ
  clear hP hQ hl hr
  go_enter Tryz.func40, Tryz.ntmps40
  go_wp2_with fail
  refine calls_named ?_
  rintro v0 hv0
  have f0 : Below w.heap.size w v0 := by rw [hv0]; (repeat' (first | (with_reducible exact Below.refl _ _) | (with_reducible assumption) | (with_reducible refine Below.alloc ?_ ?_ _) | (with_reducible refine Below.drew ?_) | (with_reducible refine Below.setCell ?_ ?_ _) | (with_reducible refine bstep (by assumption) ?_ ?_) | (with_reducible exact Nat.le_refl _) | omega | (simp [*]; done) | (simp [*]; omega)))
  have z0 : w.heap.size + 1 ≤ v0.heap.size := by rw [hv0]; simp [size_set]
  have HP_0 := Lib.hid (HP.out.below f0)
  have HP_lt := Lib.hid (fun hn => HP.out.lt hn)
  have HQ_0 := Lib.hid (HQ.out.below f0)
  have HQ_lt := Lib.hid (fun hn => HQ.out.lt hn)
  have Hc_0 : Hid (Blk v0 w.heap.size 37 #[.int .i64 i0, .int .i64 t0, .slice A n c, .slice B m d, .int .i64 l0, .int .i64 l1, .int .i64 l2]) := by rw [hv0]; exact Blk.new_at _ _ _ _ (by simp)
  clear hv0
  have lt_c := Hc_0.out.lt
  obtain ⟨r_c0, r_c1, r_c2, r_c3, r_c4, r_c5, r_c6⟩ := bc7 Hc_0.out
  have cc := between_any i0 0 2000 v0
  cases q1 : inB i0 0 2000 with
  | false =>
    rw [q1] at cc
    have Hq1 := Lib.hid q1
    clear q1
    refine (cc).mono ?_
    rintro e v' ⟨rfl, rfl⟩
    have hv : stateB i0 t0 l0 l1 l2 pl ql = false := by unfold stateB; rw [Hq1.out]; simp
    have HV := Lib.hid hv
    clear hv
    go_wp21
    go_ret
    exact ⟨ret_bool HV.out.symm, f0⟩
  | true =>
    rw [q1] at cc
    have Hq1 := Lib.hid q1
    clear q1
    refine (cc).mono ?_
    rintro e v' ⟨rfl, rfl⟩
    clear cc
    have cc := timeOk_any t0 v0
    cases q2 : inB t0 0 1000000 with
    | false =>
      rw [q2] at cc
      have Hq2 := Lib.hid q2
      clear q2
      go_wp2_with fail
      refine (cc).mono ?_
      rintro e v' ⟨rfl, rfl⟩
      have hv : stateB i0 t0 l0 l1 l2 pl ql = false := by unfold stateB; rw [Hq1.out, Hq2.out]; simp
      have HV := Lib.hid hv
      clear hv
      go_wp21
      go_ret
      exact ⟨ret_bool HV.out.symm, f0⟩
    | true =>
      rw [q2] at cc
      have Hq2 := Lib.hid q2
      clear q2
      go_wp2_with fail
      refine (cc).mono ?_
      rintro e v' ⟨rfl, rfl⟩
      clear cc
      have cc := pairsOk_any A n c pl v0 HP_0.out hL.out hn
      cases q3 : pairsB pl with
      | false =>
        rw [q3] at cc
        have Hq3 := Lib.hid q3
        clear q3
        go_wp2_with fail
        refine (cc).mono ?_
        rintro e v1 ⟨rfl, b1⟩
        have f1 := bthen f0 b1
        have z1 := b1.size
        have HP_1 := Lib.hid (HP_0.out.below b1)
        have HQ_1 := Lib.hid (HQ_0.out.below b1)
        have Hc_1 := Lib.hid (Hc_0.out.below b1)
        clear lt_c r_c0 r_c1 r_c2 r_c3 r_c4 r_c5 r_c6
        clear HP_0 HQ_0 Hc_0
        have lt_c := Hc_1.out.lt
        obtain ⟨r_c0, r_c1, r_c2, r_c3, r_c4, r_c5, r_c6⟩ := bc7 Hc_1.out
        have hv : stateB i0 t0 l0 l1 l2 pl ql = false := by unfold stateB; rw [Hq1.out, Hq2.out, Hq3.out]; simp
        have HV := Lib.hid hv
        clear hv
        go_wp21
        go_ret
        exact ⟨ret_bool HV.out.symm, f1⟩
      | true =>
        rw [q3] at cc
        have Hq3 := Lib.hid q3
        clear q3
        go_wp2_with fail
        refine (cc).mono ?_
        rintro e v1 ⟨rfl, b1⟩
        have f1 := bthen f0 b1
        have z1 := b1.size
        have HP_1 := Lib.hid (HP_0.out.below b1)
        have HQ_1 := Lib.hid (HQ_0.out.below b1)
        have Hc_1 := Lib.hid (Hc_0.out.below b1)
        clear lt_c r_c0 r_c1 r_c2 r_c3 r_c4 r_c5 r_c6
        clear HP_0 HQ_0 Hc_0
        have lt_c := Hc_1.out.lt
        obtain ⟨r_c0, r_c1, r_c2, r_c3, r_c4, r_c5, r_c6⟩ := bc7 Hc_1.out
        clear cc
        have cc := jobsOk_any B m d ql v1 HQ_1.out hR.out hm
        cases q4 : jobsB ql with
        | false =>
          rw [q4] at cc
          have Hq4 := Lib.hid q4
          clear q4
          go_wp2_with fail
          refine (cc).mono ?_
          rintro e v2 ⟨rfl, b2⟩
          have f2 := bthen f1 b2
          have z2 := b2.size
          have HP_2 := Lib.hid (HP_1.out.below b2)
          have HQ_2 := Lib.hid (HQ_1.out.below b2)
          have Hc_2 := Lib.hid (Hc_1.out.below b2)
          clear lt_c r_c0 r_c1 r_c2 r_c3 r_c4 r_c5 r_c6
          clear HP_1 HQ_1 Hc_1
          have lt_c := Hc_2.out.lt
          obtain ⟨r_c0, r_c1, r_c2, r_c3, r_c4, r_c5, r_c6⟩ := bc7 Hc_2.out
          have hv : stateB i0 t0 l0 l1 l2 pl ql = false := by unfold stateB; rw [Hq1.out, Hq2.out, Hq3.out, Hq4.out]; simp
          have HV := Lib.hid hv
          clear hv
          go_wp21
          go_ret
          exact ⟨ret_bool HV.out.symm, f2⟩
        | true =>
          rw [q4] at cc
          have Hq4 := Lib.hid q4
          clear q4
          go_wp2_with fail
          refine (cc).mono ?_
          rintro e v2 ⟨rfl, b2⟩
          have f2 := bthen f1 b2
          have z2 := b2.size
          have HP_2 := Lib.hid (HP_1.out.below b2)
          have HQ_2 := Lib.hid (HQ_1.out.below b2)
          have Hc_2 := Lib.hid (Hc_1.out.below b2)
          clear lt_c r_c0 r_c1 r_c2 r_c3 r_c4 r_c5 r_c6
          clear HP_1 HQ_1 Hc_1
          have lt_c := Hc_2.out.lt
          obtain ⟨r_c0, r_c1, r_c2, r_c3, r_c4, r_c5, r_c6⟩ := bc7 Hc_2.out
          clear cc
          have cc := leaseOk_any l0 l1 l2 v2
          cases q5 : leaseB l0 l1 l2 with
          | false =>
            rw [q5] at cc
            have Hq5 := Lib.hid q5
            clear q5
            go_wp2_with fail
            refine (cc).mono ?_
            rintro e v3 ⟨rfl, b3⟩
            have f3 := bthen f2 b3
            have z3 := b3.size
            have HP_3 := Lib.hid (HP_2.out.below b3)
            have HQ_3 := Lib.hid (HQ_2.out.below b3)
            have Hc_3 := Lib.hid (Hc_2.out.below b3)
            clear lt_c r_c0 r_c1 r_c2 r_c3 r_c4 r_c5 r_c6
            clear HP_2 HQ_2 Hc_2
            have lt_c := Hc_3.out.lt
            obtain ⟨r_c0, r_c1, r_c2, r_c3, r_c4, r_c5, r_c6⟩ := bc7 Hc_3.out
            have hv : stateB i0 t0 l0 l1 l2 pl ql = false := by unfold stateB; rw [Hq1.out, Hq2.out, Hq3.out, Hq4.out, Hq5.out]; simp
            have HV := Lib.hid hv
            clear hv
            go_wp21
            go_ret
            exact ⟨ret_bool HV.out.symm, f3⟩
          | true =>
            rw [q5] at cc
            have Hq5 := Lib.hid q5
            clear q5
            go_wp2_with fail
            refine (cc).mono ?_
            rintro e v3 ⟨rfl, b3⟩
            have f3 := bthen f2 b3
            have z3 := b3.size
            have HP_3 := Lib.hid (HP_2.out.below b3)
            have HQ_3 := Lib.hid (HQ_2.out.below b3)
            have Hc_3 := Lib.hid (Hc_2.out.below b3)
            clear lt_c r_c0 r_c1 r_c2 r_c3 r_c4 r_c5 r_c6
            clear HP_2 HQ_2 Hc_2
            have lt_c := Hc_3.out.lt
            obtain ⟨r_c0, r_c1, r_c2, r_c3, r_c4, r_c5, r_c6⟩ := bc7 Hc_3.out
            clear cc
            go_wp21
            clear lt_c r_c0 r_c1 r_c2 r_c3 r_c4 r_c5 r_c6
            unfold maxLen at hm
            go_loopw [36] (fun iv wr => ∃ j : Nat, j ≤ m ∧ iv = .int .i64 j ∧ Below w.heap.size w wr ∧ Hid (Blk wr w.heap.size 37 #[.int .i64 i0, .int .i64 t0, .slice A n c, .slice B m d, .int .i64 l0, .int .i64 l1, .int .i64 l2]) ∧ Hid (∀ i, i < j → decide ((ql.getD i default).f ≤ i0) = true)) (fun iv _ => m - (intOf iv).toNat)
            case atStart => exact ⟨0, Nat.zero_le _, rfl, f3, Hc_3, Lib.hid (fun j hj => absurd hj (by omega))⟩
            case round =>
              clear Hc_3 HP_3 HQ_3
              obtain ⟨j, hj, rfl, hbl, HKr, hall⟩ := hrel
              have lt_c := HKr.out.lt
              obtain ⟨r_c0, r_c1, r_c2, r_c3, r_c4, r_c5, r_c6⟩ := bc7 HKr.out
              by_cases hlt : j < m
              · have hlt' : (j : Int) < (m : Int) := by omega
                obtain ⟨bw, ow, rfl, hbw, hcw⟩ := sl_jobs HQ.out (by omega)
                obtain ⟨h0, h1, h2, h3, h4⟩ := hcw j hlt
                clear hcw
                rw [← hbl.cell (by exact hbw)] at h0 h1 h2 h3 h4
                have hd := fun (b : Bool) (h : decide ((ql.getD j default).f ≤ i0) = b) => h
                generalize hp : ql.getD j default = jb at h0 h1 h2 h3 h4
                obtain ⟨ji, jd, jk, jv, jf⟩ := jb
                simp only at h0 h1 h2 h3 h4
                have HPP := Lib.hid hp
                clear hp hd
                have hbrw : bw < wr.heap.size := Nat.lt_of_lt_of_le hbw hbl.size
                by_cases hf : jf ≤ i0
                · have hf' : ¬ i0 < jf := by omega
                  go_wp2
                  exact ⟨⟨j + 1, by omega, by go_num, by (repeat' (first | (with_reducible exact Below.refl _ _) | (with_reducible assumption) | (with_reducible refine Below.alloc ?_ ?_ _) | (with_reducible refine Below.drew ?_) | (with_reducible refine Below.setCell ?_ ?_ _) | (with_reducible refine bstep (by assumption) ?_ ?_) | (with_reducible exact Nat.le_refl _) | omega | (simp [*]; done) | (simp [*]; omega))), Lib.hid (HKr.out.alloc _), Lib.hid (upto_succ hall.out (by rw [HPP.out]; exact decide_eq_true hf))⟩, by simp [intOf]; omega⟩
                · have hf' : i0 < jf := by omega
                  have hv : stateB i0 t0 l0 l1 l2 pl ql = false := by
                    have : firedIn ql i0 = false := all_range_false (by rw [hR.out]; exact hlt) (by rw [HPP.out]; exact decide_eq_false hf)
                    unfold stateB; rw [Hq1.out, Hq2.out, Hq3.out, Hq4.out, Hq5.out, this]; rfl
                  have HV := Lib.hid hv
                  clear hv
                  go_wp2
                  go_ret
                  exact ⟨ret_bool HV.out.symm, by (repeat' (first | (with_reducible exact Below.refl _ _) | (with_reducible assumption) | (with_reducible refine Below.alloc ?_ ?_ _) | (with_reducible refine Below.drew ?_) | (with_reducible refine Below.setCell ?_ ?_ _) | (with_reducible refine bstep (by assumption) ?_ ?_) | (with_reducible exact Nat.le_refl _) | omega | (simp [*]; done) | (simp [*]; omega)))⟩
              · have hkn : m = j := by omega
                have hlt' : ¬ (j : Int) < (m : Int) := by omega
                have hv : stateB i0 t0 l0 l1 l2 pl ql = true := by
                  have : firedIn ql i0 = true := all_range_true (by rw [hR.out, hkn]; exact hall.out)
                  unfold stateB; rw [Hq1.out, Hq2.out, Hq3.out, Hq4.out, Hq5.out, this]; rfl
                have HV := Lib.hid hv
                clear hv hkn
                go_wp21
                go_ret
                exact ⟨ret_bool HV.out.symm, hbl⟩
set_option maxRecDepth 100000 in
set_option maxHeartbeats 4000000 in
theorem specStateOk_any (A : Option Addr) (n c : Nat) (B : Option Addr) (m d : Nat) (i0 t0 l0 l1 l2 : Int) (pl : List Pr) (ql : List Jb) (w : World) (hP : Sl w 2 A n (PR pl)) (hQ : Sl w 5 B m (JB ql)) (hl : pl.length = n) (hr : ql.length = m) (hn : n ≤ maxLen) (hm : m ≤ maxLen) :
    Calls Tryz.prog 27 #[.agg #[.int .i64 i0, .int .i64 t0, .slice A n c, .slice B m d, .int .i64 l0, .int .i64 l1, .int .i64 l2]] w fun e' w' => e' = .returned (.bool (stateB i0 t0 l0 l1 l2 pl ql)) ∧ Below w.heap.size w w' := by
  have hL := Lib.hid hl
  have hR := Lib.hid hr
  have HP := Lib.hid hP
  have HQ := Lib.hid hQ
  clear hP hQ hl hr
  go_enter Tryz.func27, Tryz.ntmps27
  go_wp2_with fail
  refine calls_named ?_
  rintro v0 hv0
  have f0 : Below w.heap.size w v0 := by rw [hv0]; (repeat' (first | (with_reducible exact Below.refl _ _) | (with_reducible assumption) | (with_reducible refine Below.alloc ?_ ?_ _) | (with_reducible refine Below.drew ?_) | (with_reducible refine Below.setCell ?_ ?_ _) | (with_reducible refine bstep (by assumption) ?_ ?_) | (with_reducible exact Nat.le_refl _) | omega | (simp [*]; done) | (simp [*]; omega)))
  have z0 : w.heap.size + 1 ≤ v0.heap.size := by rw [hv0]; simp [size_set]
  have HP_0 := Lib.hid (HP.out.below f0)
  have HP_lt := Lib.hid (fun hn => HP.out.lt hn)
  have HQ_0 := Lib.hid (HQ.out.below f0)
  have HQ_lt := Lib.hid (fun hn => HQ.out.lt hn)
  have Hc_0 : Hid (Blk v0 w.heap.size 37 #[.int .i64 i0, .int .i64 t0, .slice A n c, .slice B m d, .int .i64 l0, .int .i64 l1, .int .i64 l2]) := by rw [hv0]; exact Blk.new_at _ _ _ _ (by simp)
  clear hv0
  have lt_c := Hc_0.out.lt
  obtain ⟨r_c0, r_c1, r_c2, r_c3, r_c4, r_c5, r_c6⟩ := bc7 Hc_0.out
  have cc := l1In_any i0 0 2000 v0
  cases q1 : inB i0 0 2000 with
  | false =>
    rw [q1] at cc
    have Hq1 := Lib.hid q1
    clear q1
    refine (cc).mono ?_
    rintro e v' ⟨rfl, rfl⟩
    have hv : stateB i0 t0 l0 l1 l2 pl ql = false := by unfold stateB; rw [Hq1.out]; simp
    have HV := Lib.hid hv
    clear hv
    go_wp21
    go_ret
    exact ⟨ret_bool HV.out.symm, f0⟩
  | true =>
    rw [q1] at cc
    have Hq1 := Lib.hid q1
    clear q1
    refine (cc).mono ?_
    rintro e v' ⟨rfl, rfl⟩
    clear cc
    have cc := l16Time_any t0 v0
    cases q2 : inB t0 0 1000000 with
    | false =>
      rw [q2] at cc
      have Hq2 := Lib.hid q2
      clear q2
      go_wp2_with fail
      refine (cc).mono ?_
      rintro e v' ⟨rfl, rfl⟩
      have hv : stateB i0 t0 l0 l1 l2 pl ql = false := by unfold stateB; rw [Hq1.out, Hq2.out]; simp
      have HV := Lib.hid hv
      clear hv
      go_wp21
      go_ret
      exact ⟨ret_bool HV.out.symm, f0⟩
    | true =>
      rw [q2] at cc
      have Hq2 := Lib.hid q2
      clear q2
      go_wp2_with fail
      refine (cc).mono ?_
      rintro e v' ⟨rfl, rfl⟩
      clear cc
      have cc := specPairsOk_any A n c pl v0 HP_0.out hL.out hn
      cases q3 : pairsB pl with
      | false =>
        rw [q3] at cc
        have Hq3 := Lib.hid q3
        clear q3
        go_wp2_with fail
        refine (cc).mono ?_
        rintro e v1 ⟨rfl, b1⟩
        have f1 := bthen f0 b1
        have z1 := b1.size
        have HP_1 := Lib.hid (HP_0.out.below b1)
        have HQ_1 := Lib.hid (HQ_0.out.below b1)
        have Hc_1 := Lib.hid (Hc_0.out.below b1)
        clear lt_c r_c0 r_c1 r_c2 r_c3 r_c4 r_c5 r_c6
        clear HP_0 HQ_0 Hc_0
        have lt_c := Hc_1.out.lt
        obtain ⟨r_c0, r_c1, r_c2, r_c3, r_c4, r_c5, r_c6⟩ := bc7 Hc_1.out
        have hv : stateB i0 t0 l0 l1 l2 pl ql = false := by unfold stateB; rw [Hq1.out, Hq2.out, Hq3.out]; simp
        have HV := Lib.hid hv
        clear hv
        go_wp21
        go_ret
        exact ⟨ret_bool HV.out.symm, f1⟩
      | true =>
        rw [q3] at cc
        have Hq3 := Lib.hid q3
        clear q3
        go_wp2_with fail
        refine (cc).mono ?_
        rintro e v1 ⟨rfl, b1⟩
        have f1 := bthen f0 b1
        have z1 := b1.size
        have HP_1 := Lib.hid (HP_0.out.below b1)
        have HQ_1 := Lib.hid (HQ_0.out.below b1)
        have Hc_1 := Lib.hid (Hc_0.out.below b1)
        clear lt_c r_c0 r_c1 r_c2 r_c3 r_c4 r_c5 r_c6
        clear HP_0 HQ_0 Hc_0
        have lt_c := Hc_1.out.lt
        obtain ⟨r_c0, r_c1, r_c2, r_c3, r_c4, r_c5, r_c6⟩ := bc7 Hc_1.out
        clear cc
        have cc := specJobsOk_any B m d ql v1 HQ_1.out hR.out hm
        cases q4 : jobsB ql with
        | false =>
          rw [q4] at cc
          have Hq4 := Lib.hid q4
          clear q4
          go_wp2_with fail
          refine (cc).mono ?_
          rintro e v2 ⟨rfl, b2⟩
          have f2 := bthen f1 b2
          have z2 := b2.size
          have HP_2 := Lib.hid (HP_1.out.below b2)
          have HQ_2 := Lib.hid (HQ_1.out.below b2)
          have Hc_2 := Lib.hid (Hc_1.out.below b2)
          clear lt_c r_c0 r_c1 r_c2 r_c3 r_c4 r_c5 r_c6
          clear HP_1 HQ_1 Hc_1
          have lt_c := Hc_2.out.lt
          obtain ⟨r_c0, r_c1, r_c2, r_c3, r_c4, r_c5, r_c6⟩ := bc7 Hc_2.out
          have hv : stateB i0 t0 l0 l1 l2 pl ql = false := by unfold stateB; rw [Hq1.out, Hq2.out, Hq3.out, Hq4.out]; simp
          have HV := Lib.hid hv
          clear hv
          go_wp21
          go_ret
          exact ⟨ret_bool HV.out.symm, f2⟩
        | true =>
          rw [q4] at cc
          have Hq4 := Lib.hid q4
          clear q4
          go_wp2_with fail
          refine (cc).mono ?_
          rintro e v2 ⟨rfl, b2⟩
          have f2 := bthen f1 b2
          have z2 := b2.size
          have HP_2 := Lib.hid (HP_1.out.below b2)
          have HQ_2 := Lib.hid (HQ_1.out.below b2)
          have Hc_2 := Lib.hid (Hc_1.out.below b2)
          clear lt_c r_c0 r_c1 r_c2 r_c3 r_c4 r_c5 r_c6
          clear HP_1 HQ_1 Hc_1
          have lt_c := Hc_2.out.lt
          obtain ⟨r_c0, r_c1, r_c2, r_c3, r_c4, r_c5, r_c6⟩ := bc7 Hc_2.out
          clear cc
          have cc := specLeaseOk_any l0 l1 l2 v2
          cases q5 : leaseB l0 l1 l2 with
          | false =>
            rw [q5] at cc
            have Hq5 := Lib.hid q5
            clear q5
            go_wp2_with fail
            refine (cc).mono ?_
            rintro e v3 ⟨rfl, b3⟩
            have f3 := bthen f2 b3
            have z3 := b3.size
            have HP_3 := Lib.hid (HP_2.out.below b3)
            have HQ_3 := Lib.hid (HQ_2.out.below b3)
            have Hc_3 := Lib.hid (Hc_2.out.below b3)
            clear lt_c r_c0 r_c1 r_c2 r_c3 r_c4 r_c5 r_c6
            clear HP_2 HQ_2 Hc_2
            have lt_c := Hc_3.out.lt
            obtain ⟨r_c0, r_c1, r_c2, r_c3, r_c4, r_c5, r_c6⟩ := bc7 Hc_3.out
            have hv : stateB i0 t0 l0 l1 l2 pl ql = false := by unfold stateB; rw [Hq1.out, Hq2.out, Hq3.out, Hq4.out, Hq5.out]; simp
            have HV := Lib.hid hv
            clear hv
            go_wp21
            go_ret
            exact ⟨ret_bool HV.out.symm, f3⟩
          | true =>
            rw [q5] at cc
            have Hq5 := Lib.hid q5
            clear q5
            go_wp2_with fail
            refine (cc).mono ?_
            rintro e v3 ⟨rfl, b3⟩
            have f3 := bthen f2 b3
            have z3 := b3.size
            have HP_3 := Lib.hid (HP_2.out.below b3)
            have HQ_3 := Lib.hid (HQ_2.out.below b3)
            have Hc_3 := Lib.hid (Hc_2.out.below b3)
            clear lt_c r_c0 r_c1 r_c2 r_c3 r_c4 r_c5 r_c6
            clear HP_2 HQ_2 Hc_2
            have lt_c := Hc_3.out.lt
            obtain ⟨r_c0, r_c1, r_c2, r_c3, r_c4, r_c5, r_c6⟩ := bc7 Hc_3.out
            clear cc
            go_wp21
            clear lt_c r_c0 r_c1 r_c2 r_c3 r_c4 r_c5 r_c6
            unfold maxLen at hm
            go_loopw [3] (fun iv wr => ∃ j : Nat, j ≤ m ∧ iv = .int .i64 j ∧ Below w.heap.size w wr ∧ Hid (Blk wr w.heap.size 37 #[.int .i64 i0, .int .i64 t0, .slice A n c, .slice B m d, .int .i64 l0, .int .i64 l1, .int .i64 l2]) ∧ Hid (∀ i, i < j → decide ((ql.getD i default).f ≤ i0) = true)) (fun iv _ => m - (intOf iv).toNat)
            case atStart => exact ⟨0, Nat.zero_le _, rfl, f3, Hc_3, Lib.hid (fun j hj => absurd hj (by omega))⟩
            case round =>
              clear Hc_3 HP_3 HQ_3
              obtain ⟨j, hj, rfl, hbl, HKr, hall⟩ := hrel
              have lt_c := HKr.out.lt
              obtain ⟨r_c0, r_c1, r_c2, r_c3, r_c4, r_c5, r_c6⟩ := bc7 HKr.out
              by_cases hlt : j < m
              · have hlt' : (j : Int) < (m : Int) := by omega
                obtain ⟨bw, ow, rfl, hbw, hcw⟩ := sl_jobs HQ.out (by omega)
                obtain ⟨h0, h1, h2, h3, h4⟩ := hcw j hlt
                clear hcw
                rw [← hbl.cell (by exact hbw)] at h0 h1 h2 h3 h4
                have hd := fun (b : Bool) (h : decide ((ql.getD j default).f ≤ i0) = b) => h
                generalize hp : ql.getD j default = jb at h0 h1 h2 h3 h4
                obtain ⟨ji, jd, jk, jv, jf⟩ := jb
                simp only at h0 h1 h2 h3 h4
                have HPP := Lib.hid hp
                clear hp hd
                have hbrw : bw < wr.heap.size := Nat.lt_of_lt_of_le hbw hbl.size
                by_cases hf : jf ≤ i0
                · have hf' : ¬ i0 < jf := by omega
                  go_wp2
                  ((refine wp_region_ext (by kernel_rfl) (by kernel_rfl) ?_); (repeat (any_goals (first | go_big_quiet_step (fail) | (refine wpQuiet_step (fun K hK => ?_); go_simp; split <;> (refine hK _ ?_; clear hK K)) | quiet_step (fail)))); (all_goals (refine wpQuiet_nil ?_; rintro _ ⟨z, rfl⟩; have hb' := z.h; generalize z.w = w1 at hb' ⊢; clear z; (first | (have hb2 := bstep hb' hb hb.size; clear hb' hcb hfb hz1 hz2 hz3 hz4 hb; have hb := hb2; clear hb2) | (have hb := hb'; clear hb')); obtain ⟨hcb, hfb, hz1, hz2, hz3, hz4⟩ := bcell hb; (try simp only [World.size_alloc, World.size_setCell, World.size_drew, Nat.lt_add_one_iff, Nat.add_assoc, Nat.reduceAdd] at hz1 hz2 hz3 hz4))))
                  go_wp2
                  exact ⟨⟨j + 1, by omega, by go_num, bstep hb hbl hbl.size, Lib.hid (HKr.out.below hb), Lib.hid (upto_succ hall.out (by rw [HPP.out]; exact decide_eq_true hf))⟩, by simp [intOf]; omega⟩
                · have hf' : i0 < jf := by omega
                  have hv : stateB i0 t0 l0 l1 l2 pl ql = false := by
                    have : firedIn ql i0 = false := all_range_false (by rw [hR.out]; exact hlt) (by rw [HPP.out]; exact decide_eq_false hf)
                    unfold stateB; rw [Hq1.out, Hq2.out, Hq3.out, Hq4.out, Hq5.out, this]; rfl
                  have HV := Lib.hid hv
                  clear hv
                  go_wp2
                  ((refine wp_region_ext (by kernel_rfl) (by kernel_rfl) ?_); (repeat (any_goals (first | go_big_quiet_step (fail) | (refine wpQuiet_step (fun K hK => ?_); go_simp; split <;> (refine hK _ ?_; clear hK K)) | quiet_step (fail)))); (all_goals (refine wpQuiet_nil ?_; rintro _ ⟨z, rfl⟩; have hb' := z.h; generalize z.w = w1 at hb' ⊢; clear z; (first | (have hb2 := bstep hb' hb hb.size; clear hb' hcb hfb hz1 hz2 hz3 hz4 hb; have hb := hb2; clear hb2) | (have hb := hb'; clear hb')); obtain ⟨hcb, hfb, hz1, hz2, hz3, hz4⟩ := bcell hb; (try simp only [World.size_alloc, World.size_setCell, World.size_drew, Nat.lt_add_one_iff, Nat.add_assoc, Nat.reduceAdd] at hz1 hz2 hz3 hz4))))
                  go_wp2
                  go_ret
                  exact ⟨ret_bool HV.out.symm, bstep hb hbl hbl.size⟩
              · have hkn : m = j := by omega
                have hlt' : ¬ (j : Int) < (m : Int) := by omega
                have hv : stateB i0 t0 l0 l1 l2 pl ql = true := by
                  have : firedIn ql i0 = true := all_range_true (by rw [hR.out, hkn]; exact hall.out)
                  unfold stateB; rw [Hq1.out, Hq2.out, Hq3.out, Hq4.out, Hq5.out, this]; rfl
                have HV := Lib.hid hv
                clear hv hkn
                go_wp21
                go_ret
                exact ⟨ret_bool HV.out.symm, hbl⟩
end Go.Proofs.YtokklkmibjpjnaaGreat
namespace Go.Proofs.YtokklkmibjpjnaaGreat
set_option linter.unusedSimpArgs false
set_option linter.unusedVariables false
attribute [local go_sem] n_lt2 n_lt3 n_lt4 n_le2 n_le3
open Go.RowKit

structure Wt where
  k : Int
  o : Int
  a : Int
  b : Int
  c : Int
  d : Int
  y : Int
instance : Inhabited Wt := ⟨⟨0, 0, 0, 0, 0, 0, 0⟩⟩
def WT (l : List Wt) : List Int := l.flatMap fun j => [j.k, j.o, j.a, j.b, j.c, j.d, j.y]
theorem WT_len (l : List Wt) : (WT l).length = l.length * 7 := flat_len _ 7 l (fun _ _ => rfl)
theorem WT_append (a b : List Wt) : WT (a ++ b) = WT a ++ WT b := by simp [WT]
theorem WT_get (l : List Wt) (i j : Nat) (h : i < l.length) (hj : j < 7) : (WT l).getD (i * 7 + j) 0 = [(l.getD i default).k, (l.getD i default).o, (l.getD i default).a, (l.getD i default).b, (l.getD i default).c, (l.getD i default).d, (l.getD i default).y].getD j 0 := by
  have := flat_getD (fun j : Wt => [j.k, j.o, j.a, j.b, j.c, j.d, j.y]) 7 l (fun _ _ => rfl) i j h hj
  have e : l.getD i default = l[i] := by simp [List.getD, h]
  rw [e]
  exact this
theorem WT_of : ∀ (n : Nat) (zs : List Int), zs.length = n * 7 → ∃ l : List Wt, l.length = n ∧ WT l = zs
  | 0, zs, h => ⟨[], rfl, by simpa [WT] using (List.eq_nil_of_length_eq_zero (by omega)).symm⟩
  | n + 1, a0 :: a1 :: a2 :: a3 :: a4 :: a5 :: a6 :: zs, h => by
    obtain ⟨l, hl, he⟩ := WT_of n zs (by simp at h; omega)
    exact ⟨⟨a0, a1, a2, a3, a4, a5, a6⟩ :: l, by simp [hl], by rw [← he]; rfl⟩
  | n + 1, [], h => by simp at h
  | n + 1, [_], h => by simp at h; omega
  | n + 1, [_, _], h => by simp at h; omega
  | n + 1, [_, _, _], h => by simp at h; omega
  | n + 1, [_, _, _, _], h => by simp at h; omega
  | n + 1, [_, _, _, _, _], h => by simp at h; omega
  | n + 1, [_, _, _, _, _, _], h => by simp at h; omega
theorem sl_wants {w : World} {A : Option Addr} {n : Nat} {l : List Wt} (h : Sl w 7 A n (WT l)) (hn : 0 < n) : ∃ b off, A = some ⟨b, off, none⟩ ∧ b < w.heap.size ∧
    ∀ i, i < n → w.cell? ⟨b, off + i * 7, none⟩ = some (.int .i64 (l.getD i default).k) ∧ w.cell? ⟨b, off + i * 7 + 1, none⟩ = some (.int .i64 (l.getD i default).o) ∧ w.cell? ⟨b, off + i * 7 + 2, none⟩ = some (.int .i64 (l.getD i default).a) ∧ w.cell? ⟨b, off + i * 7 + 3, none⟩ = some (.int .i64 (l.getD i default).b) ∧ w.cell? ⟨b, off + i * 7 + 4, none⟩ = some (.int .i64 (l.getD i default).c) ∧ w.cell? ⟨b, off + i * 7 + 5, none⟩ = some (.int .i64 (l.getD i default).d) ∧ w.cell? ⟨b, off + i * 7 + 6, none⟩ = some (.int .i64 (l.getD i default).y) := by
  have hl : l.length = n := by
    have := h.len
    rw [WT_len] at this
    omega
  obtain ⟨b, off, hA, hb, hc⟩ := h.at_ hn
  have hg : ∀ i, i < n → ∀ j, j < 7 → w.cell? ⟨b, off + i * 7 + j, none⟩ = some (.int .i64 ([(l.getD i default).k, (l.getD i default).o, (l.getD i default).a, (l.getD i default).b, (l.getD i default).c, (l.getD i default).d, (l.getD i default).y].getD j 0)) := fun i hi j hj => by
    rw [Nat.add_assoc, hc (i * 7 + j) (by omega), WT_get l i j (by omega) hj]
  exact ⟨b, off, hA, hb, fun i hi => ⟨hg i hi 0 (by decide), hg i hi 1 (by decide), hg i hi 2 (by decide), hg i hi 3 (by decide), hg i hi 4 (by decide), hg i hi 5 (by decide), hg i hi 6 (by decide)⟩⟩
structure Gt where
  q : Int
  x : Int
  h : Int
  v : Int
instance : Inhabited Gt := ⟨⟨0, 0, 0, 0⟩⟩
def GT (l : List Gt) : List Int := l.flatMap fun j => [j.q, j.x, j.h, j.v]
theorem GT_len (l : List Gt) : (GT l).length = l.length * 4 := flat_len _ 4 l (fun _ _ => rfl)
theorem GT_append (a b : List Gt) : GT (a ++ b) = GT a ++ GT b := by simp [GT]
theorem GT_get (l : List Gt) (i j : Nat) (h : i < l.length) (hj : j < 4) : (GT l).getD (i * 4 + j) 0 = [(l.getD i default).q, (l.getD i default).x, (l.getD i default).h, (l.getD i default).v].getD j 0 := by
  have := flat_getD (fun j : Gt => [j.q, j.x, j.h, j.v]) 4 l (fun _ _ => rfl) i j h hj
  have e : l.getD i default = l[i] := by simp [List.getD, h]
  rw [e]
  exact this
theorem GT_of : ∀ (n : Nat) (zs : List Int), zs.length = n * 4 → ∃ l : List Gt, l.length = n ∧ GT l = zs
  | 0, zs, h => ⟨[], rfl, by simpa [GT] using (List.eq_nil_of_length_eq_zero (by omega)).symm⟩
  | n + 1, a0 :: a1 :: a2 :: a3 :: zs, h => by
    obtain ⟨l, hl, he⟩ := GT_of n zs (by simp at h; omega)
    exact ⟨⟨a0, a1, a2, a3⟩ :: l, by simp [hl], by rw [← he]; rfl⟩
  | n + 1, [], h => by simp at h
  | n + 1, [_], h => by simp at h; omega
  | n + 1, [_, _], h => by simp at h; omega
  | n + 1, [_, _, _], h => by simp at h; omega
theorem sl_gots {w : World} {A : Option Addr} {n : Nat} {l : List Gt} (h : Sl w 4 A n (GT l)) (hn : 0 < n) : ∃ b off, A = some ⟨b, off, none⟩ ∧ b < w.heap.size ∧
    ∀ i, i < n → w.cell? ⟨b, off + i * 4, none⟩ = some (.int .i64 (l.getD i default).q) ∧ w.cell? ⟨b, off + i * 4 + 1, none⟩ = some (.int .i64 (l.getD i default).x) ∧ w.cell? ⟨b, off + i * 4 + 2, none⟩ = some (.int .i64 (l.getD i default).h) ∧ w.cell? ⟨b, off + i * 4 + 3, none⟩ = some (.int .i64 (l.getD i default).v) := by
  have hl : l.length = n := by
    have := h.len
    rw [GT_len] at this
    omega
  obtain ⟨b, off, hA, hb, hc⟩ := h.at_ hn
  have hg : ∀ i, i < n → ∀ j, j < 4 → w.cell? ⟨b, off + i * 4 + j, none⟩ = some (.int .i64 ([(l.getD i default).q, (l.getD i default).x, (l.getD i default).h, (l.getD i default).v].getD j 0)) := fun i hi j hj => by
    rw [Nat.add_assoc, hc (i * 4 + j) (by omega), GT_get l i j (by omega) hj]
  exact ⟨b, off, hA, hb, fun i hi => ⟨hg i hi 0 (by decide), hg i hi 1 (by decide), hg i hi 2 (by decide), hg i hi 3 (by decide)⟩⟩

theorem beqI (a b : Int) : (a == b) = decide (a = b) := by by_cases h : a = b <;> simp [h]
def opB (k a b c d : Int) : Bool :=
  if k = 1 then inB a 0 9 && (inB b 0 999 && (decide (c = 0) && decide (d = 0)))
  else if k = 2 then inB a 0 9 && (decide (b = 0) && (decide (c = 0) && decide (d = 0)))
  else if k = 3 then inB a 1 20 && (inB b 0 1000000 && (inB c 0 9 && inB d 0 999))
  else if k = 4 then inB a 1 20 && (inB b 0 1000 && (decide (c = 0) && decide (d = 0)))
  else if k = 5 then inB a 1 1000 && (decide (b = 0) && (decide (c = 0) && decide (d = 0)))
  else false
theorem l7Key_any (x : Int) (w : World) :
    Calls Tryz.prog 126 #[.int .i64 x] w fun e w' => e = .returned (.bool (inB x 0 9)) ∧ w = w' := by
  go_enter Tryz.func126, Tryz.ntmps126
  go_wp2_with ((go_at_call 60; refine (l1In_any _ _ _ _).mono ?_; rintro e w' ⟨rfl, rfl⟩))
  go_ret; exact ⟨rfl, rfl⟩
theorem l7Value_any (x : Int) (w : World) :
    Calls Tryz.prog 127 #[.int .i64 x] w fun e w' => e = .returned (.bool (inB x 0 999)) ∧ w = w' := by
  go_enter Tryz.func127, Tryz.ntmps127
  go_wp2_with ((go_at_call 60; refine (l1In_any _ _ _ _).mono ?_; rintro e w' ⟨rfl, rfl⟩))
  go_ret; exact ⟨rfl, rfl⟩
theorem l7Id_any (x : Int) (w : World) :
    Calls Tryz.prog 128 #[.int .i64 x] w fun e w' => e = .returned (.bool (inB x 1 20)) ∧ w = w' := by
  go_enter Tryz.func128, Tryz.ntmps128
  go_wp2_with ((go_at_call 60; refine (l1In_any _ _ _ _).mono ?_; rintro e w' ⟨rfl, rfl⟩))
  go_ret; exact ⟨rfl, rfl⟩
theorem l7Seq_any (x : Int) (w : World) :
    Calls Tryz.prog 112 #[.int .i64 x] w fun e w' => e = .returned (.bool (inB x 1 2000)) ∧ w = w' := by
  go_enter Tryz.func112, Tryz.ntmps112
  go_wp2_with ((go_at_call 60; refine (l1In_any _ _ _ _).mono ?_; rintro e w' ⟨rfl, rfl⟩))
  go_ret; exact ⟨rfl, rfl⟩
theorem l7Index_any (x : Int) (w : World) :
    Calls Tryz.prog 109 #[.int .i64 x] w fun e w' => e = .returned (.bool (inB x 1 2000)) ∧ w = w' := by
  go_enter Tryz.func109, Tryz.ntmps109
  go_wp2_with ((go_at_call 60; refine (l1In_any _ _ _ _).mono ?_; rintro e w' ⟨rfl, rfl⟩))
  go_ret; exact ⟨rfl, rfl⟩
theorem specTimeOk_any (x : Int) (w : World) :
    Calls Tryz.prog 110 #[.int .i64 x] w fun e w' => e = .returned (.bool (inB x 0 1000000)) ∧ w = w' := by
  go_enter Tryz.func110, Tryz.ntmps110
  go_wp2_with ((go_at_call 60; refine (l1In_any _ _ _ _).mono ?_; rintro e w' ⟨rfl, rfl⟩))
  go_ret; exact ⟨rfl, rfl⟩
theorem seqOk_any (x : Int) (w : World) :
    Calls Tryz.prog 95 #[.int .i64 x] w fun e w' => e = .returned (.bool (inB x 1 2000)) ∧ w = w' := by
  go_enter Tryz.func95, Tryz.ntmps95
  go_wp2_with ((go_at_call 74; refine (between_any _ _ _ _).mono ?_; rintro e w' ⟨rfl, rfl⟩))
  go_ret; exact ⟨rfl, rfl⟩
theorem indexOk_any (x : Int) (w : World) :
    Calls Tryz.prog 93 #[.int .i64 x] w fun e w' => e = .returned (.bool (inB x 1 2000)) ∧ w = w' := by
  go_enter Tryz.func93, Tryz.ntmps93
  go_wp2_with ((go_at_call 74; refine (between_any _ _ _ _).mono ?_; rintro e w' ⟨rfl, rfl⟩))
  go_ret; exact ⟨rfl, rfl⟩
theorem askerOk_any (x : Int) (w : World) :
    Calls Tryz.prog 94 #[.int .i64 x] w fun e w' => e = .returned (.bool (inB x 2 5)) ∧ w = w' := by
  go_enter Tryz.func94, Tryz.ntmps94
  go_wp2_with ((go_at_call 74; refine (between_any _ _ _ _).mono ?_; rintro e w' ⟨rfl, rfl⟩))
  go_ret; exact ⟨rfl, rfl⟩
theorem specAskerOk_any (x : Int) (w : World) :
    Calls Tryz.prog 111 #[.int .i64 x] w fun e w' => e = .returned (.bool (inB x 2 5)) ∧ w = w' := by
  go_enter Tryz.func111, Tryz.ntmps111
  go_wp2_with ((go_at_call 60; refine (l1In_any _ _ _ _).mono ?_; rintro e w' ⟨rfl, rfl⟩))
  go_ret; exact ⟨rfl, rfl⟩
set_option maxHeartbeats 1000000 in
theorem opOk_any (k a b c d : Int) (w : World) :
    Calls Tryz.prog 96 #[.agg #[.int .i64 k, .int .i64 a, .int .i64 b, .int .i64 c, .int .i64 d]] w fun e' w' => e' = .returned (.bool (opB k a b c d)) ∧ Below w.heap.size w w' := by
  by_cases h1 : k = 1
  · subst h1
    go_enter Tryz.func96, Tryz.ntmps96
    go_wp2_with (first | (go_at_call 88; refine (keyOk_any _ _).mono ?_; rintro e w' ⟨rfl, rfl⟩) | (go_at_call 89; refine (valueOk_any _ _).mono ?_; rintro e w' ⟨rfl, rfl⟩) | (go_at_call 114; refine (idOk_any _ _).mono ?_; rintro e w' ⟨rfl, rfl⟩) | (go_at_call 75; refine (timeOk_any _ _).mono ?_; rintro e w' ⟨rfl, rfl⟩) | (go_at_call 74; refine (between_any _ _ _ _).mono ?_; rintro e w' ⟨rfl, rfl⟩))
    all_goals (go_ret; unfold opB; exact ⟨ret_bool (by first | (simp [*, beqI]; done) | (subst_vars; simp [*, beqI]; done) | (simp [*, beqI]; intros; omega) | (simp_all [beqI]; done)), by (repeat' (first | (with_reducible exact Below.refl _ _) | (with_reducible assumption) | (with_reducible refine Below.alloc ?_ ?_ _) | (with_reducible refine Below.drew ?_) | (with_reducible refine Below.setCell ?_ ?_ _) | (with_reducible refine bstep (by assumption) ?_ ?_) | (with_reducible exact Nat.le_refl _) | omega | (simp [*]; done) | (simp [*]; omega)))⟩)
  by_cases h2 : k = 2
  · subst h2
    go_enter Tryz.func96, Tryz.ntmps96
    go_wp2_with (first | (go_at_call 88; refine (keyOk_any _ _).mono ?_; rintro e w' ⟨rfl, rfl⟩) | (go_at_call 89; refine (valueOk_any _ _).mono ?_; rintro e w' ⟨rfl, rfl⟩) | (go_at_call 114; refine (idOk_any _ _).mono ?_; rintro e w' ⟨rfl, rfl⟩) | (go_at_call 75; refine (timeOk_any _ _).mono ?_; rintro e w' ⟨rfl, rfl⟩) | (go_at_call 74; refine (between_any _ _ _ _).mono ?_; rintro e w' ⟨rfl, rfl⟩))
    all_goals (go_ret; unfold opB; exact ⟨ret_bool (by first | (simp [*, beqI]; done) | (subst_vars; simp [*, beqI]; done) | (simp [*, beqI]; intros; omega) | (simp_all [beqI]; done)), by (repeat' (first | (with_reducible exact Below.refl _ _) | (with_reducible assumption) | (with_reducible refine Below.alloc ?_ ?_ _) | (with_reducible refine Below.drew ?_) | (with_reducible refine Below.setCell ?_ ?_ _) | (with_reducible refine bstep (by assumption) ?_ ?_) | (with_reducible exact Nat.le_refl _) | omega | (simp [*]; done) | (simp [*]; omega)))⟩)
  by_cases h3 : k = 3
  · subst h3
    go_enter Tryz.func96, Tryz.ntmps96
    go_wp2_with (first | (go_at_call 88; refine (keyOk_any _ _).mono ?_; rintro e w' ⟨rfl, rfl⟩) | (go_at_call 89; refine (valueOk_any _ _).mono ?_; rintro e w' ⟨rfl, rfl⟩) | (go_at_call 114; refine (idOk_any _ _).mono ?_; rintro e w' ⟨rfl, rfl⟩) | (go_at_call 75; refine (timeOk_any _ _).mono ?_; rintro e w' ⟨rfl, rfl⟩) | (go_at_call 74; refine (between_any _ _ _ _).mono ?_; rintro e w' ⟨rfl, rfl⟩))
    all_goals (go_ret; unfold opB; exact ⟨ret_bool (by first | (simp [*, beqI]; done) | (subst_vars; simp [*, beqI]; done) | (simp [*, beqI]; intros; omega) | (simp_all [beqI]; done)), by (repeat' (first | (with_reducible exact Below.refl _ _) | (with_reducible assumption) | (with_reducible refine Below.alloc ?_ ?_ _) | (with_reducible refine Below.drew ?_) | (with_reducible refine Below.setCell ?_ ?_ _) | (with_reducible refine bstep (by assumption) ?_ ?_) | (with_reducible exact Nat.le_refl _) | omega | (simp [*]; done) | (simp [*]; omega)))⟩)
  by_cases h4 : k = 4
  · subst h4
    go_enter Tryz.func96, Tryz.ntmps96
    go_wp2_with (first | (go_at_call 88; refine (keyOk_any _ _).mono ?_; rintro e w' ⟨rfl, rfl⟩) | (go_at_call 89; refine (valueOk_any _ _).mono ?_; rintro e w' ⟨rfl, rfl⟩) | (go_at_call 114; refine (idOk_any _ _).mono ?_; rintro e w' ⟨rfl, rfl⟩) | (go_at_call 75; refine (timeOk_any _ _).mono ?_; rintro e w' ⟨rfl, rfl⟩) | (go_at_call 74; refine (between_any _ _ _ _).mono ?_; rintro e w' ⟨rfl, rfl⟩))
    all_goals (go_ret; unfold opB; exact ⟨ret_bool (by first | (simp [*, beqI]; done) | (subst_vars; simp [*, beqI]; done) | (simp [*, beqI]; intros; omega) | (simp_all [beqI]; done)), by (repeat' (first | (with_reducible exact Below.refl _ _) | (with_reducible assumption) | (with_reducible refine Below.alloc ?_ ?_ _) | (with_reducible refine Below.drew ?_) | (with_reducible refine Below.setCell ?_ ?_ _) | (with_reducible refine bstep (by assumption) ?_ ?_) | (with_reducible exact Nat.le_refl _) | omega | (simp [*]; done) | (simp [*]; omega)))⟩)
  by_cases h5 : k = 5
  · subst h5
    go_enter Tryz.func96, Tryz.ntmps96
    go_wp2_with (first | (go_at_call 88; refine (keyOk_any _ _).mono ?_; rintro e w' ⟨rfl, rfl⟩) | (go_at_call 89; refine (valueOk_any _ _).mono ?_; rintro e w' ⟨rfl, rfl⟩) | (go_at_call 114; refine (idOk_any _ _).mono ?_; rintro e w' ⟨rfl, rfl⟩) | (go_at_call 75; refine (timeOk_any _ _).mono ?_; rintro e w' ⟨rfl, rfl⟩) | (go_at_call 74; refine (between_any _ _ _ _).mono ?_; rintro e w' ⟨rfl, rfl⟩))
    all_goals (go_ret; unfold opB; exact ⟨ret_bool (by first | (simp [*, beqI]; done) | (subst_vars; simp [*, beqI]; done) | (simp [*, beqI]; intros; omega) | (simp_all [beqI]; done)), by (repeat' (first | (with_reducible exact Below.refl _ _) | (with_reducible assumption) | (with_reducible refine Below.alloc ?_ ?_ _) | (with_reducible refine Below.drew ?_) | (with_reducible refine Below.setCell ?_ ?_ _) | (with_reducible refine bstep (by assumption) ?_ ?_) | (with_reducible exact Nat.le_refl _) | omega | (simp [*]; done) | (simp [*]; omega)))⟩)
  go_enter Tryz.func96, Tryz.ntmps96
  go_wp2_with fail
  all_goals (go_ret; unfold opB; exact ⟨ret_bool (by first | (simp [*, beqI]; done) | (subst_vars; simp [*, beqI]; done) | (simp [*, beqI]; intros; omega) | (simp_all [beqI]; done)), by (repeat' (first | (with_reducible exact Below.refl _ _) | (with_reducible assumption) | (with_reducible refine Below.alloc ?_ ?_ _) | (with_reducible refine Below.drew ?_) | (with_reducible refine Below.setCell ?_ ?_ _) | (with_reducible refine bstep (by assumption) ?_ ?_) | (with_reducible exact Nat.le_refl _) | omega | (simp [*]; done) | (simp [*]; omega)))⟩)
set_option maxHeartbeats 1000000 in
theorem specOpOk_any (k a b c d : Int) (w : World) :
    Calls Tryz.prog 113 #[.agg #[.int .i64 k, .int .i64 a, .int .i64 b, .int .i64 c, .int .i64 d]] w fun e' w' => e' = .returned (.bool (opB k a b c d)) ∧ Below w.heap.size w w' := by
  by_cases h1 : k = 1
  · subst h1
    go_enter Tryz.func113, Tryz.ntmps113
    go_wp2_with (first | (go_at_call 126; refine (l7Key_any _ _).mono ?_; rintro e w' ⟨rfl, rfl⟩) | (go_at_call 127; refine (l7Value_any _ _).mono ?_; rintro e w' ⟨rfl, rfl⟩) | (go_at_call 128; refine (l7Id_any _ _).mono ?_; rintro e w' ⟨rfl, rfl⟩) | (go_at_call 110; refine (specTimeOk_any _ _).mono ?_; rintro e w' ⟨rfl, rfl⟩) | (go_at_call 60; refine (l1In_any _ _ _ _).mono ?_; rintro e w' ⟨rfl, rfl⟩))
    all_goals (go_ret; unfold opB; exact ⟨ret_bool (by first | (simp [*, beqI]; done) | (subst_vars; simp [*, beqI]; done) | (simp [*, beqI]; intros; omega) | (simp_all [beqI]; done)), by (repeat' (first | (with_reducible exact Below.refl _ _) | (with_reducible assumption) | (with_reducible refine Below.alloc ?_ ?_ _) | (with_reducible refine Below.drew ?_) | (with_reducible refine Below.setCell ?_ ?_ _) | (with_reducible refine bstep (by assumption) ?_ ?_) | (with_reducible exact Nat.le_refl _) | omega | (simp [*]; done) | (simp [*]; omega)))⟩)
  by_cases h2 : k = 2
  · subst h2
    go_enter Tryz.func113, Tryz.ntmps113
    go_wp2_with (first | (go_at_call 126; refine (l7Key_any _ _).mono ?_; rintro e w' ⟨rfl, rfl⟩) | (go_at_call 127; refine (l7Value_any _ _).mono ?_; rintro e w' ⟨rfl, rfl⟩) | (go_at_call 128; refine (l7Id_any _ _).mono ?_; rintro e w' ⟨rfl, rfl⟩) | (go_at_call 110; refine (specTimeOk_any _ _).mono ?_; rintro e w' ⟨rfl, rfl⟩) | (go_at_call 60; refine (l1In_any _ _ _ _).mono ?_; rintro e w' ⟨rfl, rfl⟩))
    all_goals (go_ret; unfold opB; exact ⟨ret_bool (by first | (simp [*, beqI]; done) | (subst_vars; simp [*, beqI]; done) | (simp [*, beqI]; intros; omega) | (simp_all [beqI]; done)), by (repeat' (first | (with_reducible exact Below.refl _ _) | (with_reducible assumption) | (with_reducible refine Below.alloc ?_ ?_ _) | (with_reducible refine Below.drew ?_) | (with_reducible refine Below.setCell ?_ ?_ _) | (with_reducible refine bstep (by assumption) ?_ ?_) | (with_reducible exact Nat.le_refl _) | omega | (simp [*]; done) | (simp [*]; omega)))⟩)
  by_cases h3 : k = 3
  · subst h3
    go_enter Tryz.func113, Tryz.ntmps113
    go_wp2_with (first | (go_at_call 126; refine (l7Key_any _ _).mono ?_; rintro e w' ⟨rfl, rfl⟩) | (go_at_call 127; refine (l7Value_any _ _).mono ?_; rintro e w' ⟨rfl, rfl⟩) | (go_at_call 128; refine (l7Id_any _ _).mono ?_; rintro e w' ⟨rfl, rfl⟩) | (go_at_call 110; refine (specTimeOk_any _ _).mono ?_; rintro e w' ⟨rfl, rfl⟩) | (go_at_call 60; refine (l1In_any _ _ _ _).mono ?_; rintro e w' ⟨rfl, rfl⟩))
    all_goals (go_ret; unfold opB; exact ⟨ret_bool (by first | (simp [*, beqI]; done) | (subst_vars; simp [*, beqI]; done) | (simp [*, beqI]; intros; omega) | (simp_all [beqI]; done)), by (repeat' (first | (with_reducible exact Below.refl _ _) | (with_reducible assumption) | (with_reducible refine Below.alloc ?_ ?_ _) | (with_reducible refine Below.drew ?_) | (with_reducible refine Below.setCell ?_ ?_ _) | (with_reducible refine bstep (by assumption) ?_ ?_) | (with_reducible exact Nat.le_refl _) | omega | (simp [*]; done) | (simp [*]; omega)))⟩)
  by_cases h4 : k = 4
  · subst h4
    go_enter Tryz.func113, Tryz.ntmps113
    go_wp2_with (first | (go_at_call 126; refine (l7Key_any _ _).mono ?_; rintro e w' ⟨rfl, rfl⟩) | (go_at_call 127; refine (l7Value_any _ _).mono ?_; rintro e w' ⟨rfl, rfl⟩) | (go_at_call 128; refine (l7Id_any _ _).mono ?_; rintro e w' ⟨rfl, rfl⟩) | (go_at_call 110; refine (specTimeOk_any _ _).mono ?_; rintro e w' ⟨rfl, rfl⟩) | (go_at_call 60; refine (l1In_any _ _ _ _).mono ?_; rintro e w' ⟨rfl, rfl⟩))
    all_goals (go_ret; unfold opB; exact ⟨ret_bool (by first | (simp [*, beqI]; done) | (subst_vars; simp [*, beqI]; done) | (simp [*, beqI]; intros; omega) | (simp_all [beqI]; done)), by (repeat' (first | (with_reducible exact Below.refl _ _) | (with_reducible assumption) | (with_reducible refine Below.alloc ?_ ?_ _) | (with_reducible refine Below.drew ?_) | (with_reducible refine Below.setCell ?_ ?_ _) | (with_reducible refine bstep (by assumption) ?_ ?_) | (with_reducible exact Nat.le_refl _) | omega | (simp [*]; done) | (simp [*]; omega)))⟩)
  by_cases h5 : k = 5
  · subst h5
    go_enter Tryz.func113, Tryz.ntmps113
    go_wp2_with (first | (go_at_call 126; refine (l7Key_any _ _).mono ?_; rintro e w' ⟨rfl, rfl⟩) | (go_at_call 127; refine (l7Value_any _ _).mono ?_; rintro e w' ⟨rfl, rfl⟩) | (go_at_call 128; refine (l7Id_any _ _).mono ?_; rintro e w' ⟨rfl, rfl⟩) | (go_at_call 110; refine (specTimeOk_any _ _).mono ?_; rintro e w' ⟨rfl, rfl⟩) | (go_at_call 60; refine (l1In_any _ _ _ _).mono ?_; rintro e w' ⟨rfl, rfl⟩))
    all_goals (go_ret; unfold opB; exact ⟨ret_bool (by first | (simp [*, beqI]; done) | (subst_vars; simp [*, beqI]; done) | (simp [*, beqI]; intros; omega) | (simp_all [beqI]; done)), by (repeat' (first | (with_reducible exact Below.refl _ _) | (with_reducible assumption) | (with_reducible refine Below.alloc ?_ ?_ _) | (with_reducible refine Below.drew ?_) | (with_reducible refine Below.setCell ?_ ?_ _) | (with_reducible refine bstep (by assumption) ?_ ?_) | (with_reducible exact Nat.le_refl _) | omega | (simp [*]; done) | (simp [*]; omega)))⟩)
  go_enter Tryz.func113, Tryz.ntmps113
  go_wp2_with fail
  all_goals (go_ret; unfold opB; exact ⟨ret_bool (by first | (simp [*, beqI]; done) | (subst_vars; simp [*, beqI]; done) | (simp [*, beqI]; intros; omega) | (simp_all [beqI]; done)), by (repeat' (first | (with_reducible exact Below.refl _ _) | (with_reducible assumption) | (with_reducible refine Below.alloc ?_ ?_ _) | (with_reducible refine Below.drew ?_) | (with_reducible refine Below.setCell ?_ ?_ _) | (with_reducible refine bstep (by assumption) ?_ ?_) | (with_reducible exact Nat.le_refl _) | omega | (simp [*]; done) | (simp [*]; omega)))⟩)
def wantB (k o a b c d y : Int) : Bool :=
  if k = 1 ∨ k = 2 ∨ k = 3 then opB o a b c d && (decide (o = k) && decide (y = 0))
  else if k = 4 then decide (o = 0 ∧ a = 0 ∧ b = 0 ∧ c = 0 ∧ d = 0) && inB y 0 9
  else false
def wantOkB (x : Wt) : Bool := wantB x.k x.o x.a x.b x.c x.d x.y
def foundB (h v : Int) : Bool := (decide (h = 0) && decide (v = 0)) || (decide (h = 1) && inB v 0 999)
def gotB (k q x h v seq last : Int) : Bool := decide (q = seq) && (inB x last 2000 && (if k = 4 then foundB h v else decide (last < x) && (decide (h = 0) && decide (v = 0))))
def lastAt (gl : List Gt) (i : Nat) : Int := if i = 0 then 0 else (gl.getD (i - 1) default).x
def gotAt (wl : List Wt) (gl : List Gt) (i : Nat) : Bool := gotB (wl.getD i default).k (gl.getD i default).q (gl.getD i default).x (gl.getD i default).h (gl.getD i default).v ((i : Int) + 1) (lastAt gl i)
def wantsB (wl : List Wt) : Bool := (List.range wl.length).all fun i => wantOkB (wl.getD i default)
def gotsB (wl : List Wt) (gl : List Gt) : Bool := (List.range gl.length).all (gotAt wl gl)
def clientB (i0 : Int) (wl : List Wt) (gl : List Gt) (t0 : Int) : Bool := (decide (i0 = 4) || decide (i0 = 5)) && (decide (wl.length ≤ 12) && (wantsB wl && (decide (gl.length ≤ wl.length) && (gotsB wl gl && decide (t0 = lastAt gl gl.length)))))
attribute [local go_sem] Ext.cell Ext.frozen
theorem foundB_eq (h v : Int) : foundB h v = (inB h 0 1 && (inB v 0 999 && (decide (h = 1) || decide (v = 0)))) := by
  rw [Bool.eq_iff_iff]
  unfold foundB
  simp only [Bool.or_eq_true, Bool.and_eq_true, decide_eq_true_eq, inB_iff]
  omega
end Go.Proofs.YtokklkmibjpjnaaGreat

/- RowPairs: the reference's. -/
import Derived.Test.YtodkcanhlpgpgaaP7
import Derived.Test.YtodkcanhlpgpgaaSInt64
import Derived.Deep.RegionHeldLaw
import Derived.Deep.AppendLies
namespace Go.Proofs.Ytodkcanhlpgpgaa
set_option linter.unusedSimpArgs false
set_option linter.unusedVariables false
attribute [local go_sem] n_lt2 n_lt3 n_lt4 n_le2 n_le3
open Go.RowKit
theorem PR_take2 {l : List Pr} {k : Nat} (h : k < l.length) : PR (l.take (k + 1)) = PR (l.take k) ++ [(l.getD k default).k, (l.getD k default).v] := by
  rw [List.take_add_one, PR_append]
  congr 1
  simp [PR, List.getD, h]
theorem row_get {a : Int} {l : List Pr} {k q : Nat} (hq : q = 1 + 2 * k) (h : k < l.length) : (a :: PR l).getD q 0 = (l.getD k default).k ∧ (a :: PR l).getD (q + 1) 0 = (l.getD k default).v := by
  subst hq
  constructor
  · rw [show 1 + 2 * k = k * 2 + 1 by omega, List.getD_cons_succ, PR_get0 l k h]
  · rw [show 1 + 2 * k + 1 = (k * 2 + 1) + 1 by omega, List.getD_cons_succ, PR_get1 l k h]
def rowGood (a : Int) (l : List Pr) : Bool := decide (a = (l.length : Int)) && pairsB l
def rowSel (a : Int) (l : List Pr) : List Pr := if rowGood a l = true then l else []
attribute [local go_sem] Ext.cell Ext.frozen

set_option maxRecDepth 100000 in
set_option maxHeartbeats 2000000 in
theorem specRowPairs_good (A : Option Addr) (n cap m : Nat) (a : Int) (l : List Pr) (w : World) (hS : Sl w 1 A n (a :: PR l)) (hl : l.length = m) (hn : n = 2 * m + 1) (hm : m ≤ 10) :
    Calls Try.prog 71 #[.slice A n cap] w (RetRowB w 114 2 (rowSel a l).length (PR (rowSel a l)) (rowGood a l)) := by
  obtain ⟨b, off, rfl, hb, hcell⟩ := hS.at_ (by omega)
  have hrem : (n : Int).tmod 2 = 1 := by rw [Int.tmod_eq_emod_of_nonneg (by omega)]; omega
  have hn21 : (n : Int) ≤ 21 := by omega
  have ha := hcell 0 (by omega)
  simp only [Nat.add_zero, List.getD_cons_zero] at ha
  have HA := Lib.hid ha
  have HC := Lib.hid (show ∀ k q, q = 1 + 2 * k → k < m → w.cell? ⟨b, off + q, none⟩ = some (.int .i64 (l.getD k default).k) ∧ w.cell? ⟨b, off + (q + 1), none⟩ = some (.int .i64 (l.getD k default).v) from fun k q hq hk => by
    have := row_get (a := a) hq (hl.symm ▸ hk)
    rw [hcell q (by omega), hcell (q + 1) (by omega), this.1, this.2]
    exact ⟨rfl, rfl⟩)
  have hn0 : 0 < n := by omega
  have HN := Lib.hid hn
  have HL := Lib.hid hl
  clear hS hcell ha hn hl
  go_enter Try.func71, Try.ntmps71
  go_wp2
  go_loopw [4, 5] (fun o i wr => ∃ k q A0 c0, k ≤ m ∧ q ≤ n ∧ Hid (q = 1 + 2 * k) ∧ i = .int .i64 (q : Nat) ∧ o = .slice A0 k c0 ∧ Row wr w.heap.size 114 2 A0 k c0 (PR (l.take k)) ∧ Below w.heap.size w wr) (fun _ i _ => n - (intOf i).toNat)
  case atStart => exact ⟨0, 1, _, _, by omega, by omega, Lib.hid rfl, rfl, rfl, row0p (Blk.new w _ _) (Nat.le_refl _), (Below.refl _ _).alloc (Nat.le_refl _) _⟩
  case round =>
    obtain ⟨k, q, A0, c0, hk, hqn, hq, rfl, rfl, R, hbl⟩ := hrel
    by_cases hlt : q < n
    · have hkm : k < m := by have := hq.out; have := HN.out; omega
      have hq1 : q + 1 < n := by have := hq.out; have := HN.out; omega
      obtain ⟨h0, h1⟩ := HC.out k q hq.out hkm
      rw [← hbl.cell (by exact hb)] at h0 h1
      generalize hp : l.getD k default = p at h0 h1
      obtain ⟨x, y⟩ := p
      simp only at h0 h1
      have HP := Lib.hid hp
      clear hp
      have hbr : b < wr.heap.size := Nat.lt_of_lt_of_le hb hbl.size
      have hlt' : (q : Int) < (n : Int) := by omega
      have hlt1 : (q : Int) + 1 < (n : Int) := by omega
      have hge0 : (0 : Int) ≤ (q : Int) + 1 := by omega
      have hnl : ¬ (n : Int) ≤ (q : Int) + 1 := by omega
      have hdl : decide ((q : Int) + 1 < (n : Int)) = true := decide_eq_true (by omega)
      have htn : ((q : Int) + 1).toNat = q + 1 := by omega
      have hw64 : wrap64 ((q : Int) + 1) = (q : Int) + 1 := by unfold wrap64; omega
      have hwk : IntKind.i64.wrap ((q : Int) + 1) = (q : Int) + 1 := by first | exact hw64 | (simp [IntKind.wrap, IntKind.bits, IntKind.signed]; omega)
      go_wp2
      have hk0 : ∀ w', Below wr.heap.size wr w' → w'.cell? ⟨b, off + q, none⟩ = some (.int .i64 x) ∧ w'.cell? ⟨b, off + (q + 1), none⟩ = some (.int .i64 y) := fun w' hB => ⟨(hB.cell hbr).trans h0, (hB.cell hbr).trans h1⟩
      have HK := Lib.hid hk0
      have hneb : some b ≠ (Value.slice A0 k c0).ownBlock := by
        cases A0 with
        | none => simp [Value.ownBlock]
        | some a0 =>
          have := R.ge a0 rfl
          simp only [Value.ownBlock, ne_eq, Option.some.injEq]
          omega
      have HK5 := Lib.hid (show ∀ W w5, Below wr.heap.size wr W → W.grownBy w5 (Value.slice A0 k c0).ownBlock → w5.cell? ⟨b, off + q, none⟩ = some (.int .i64 x) ∧ w5.cell? ⟨b, off + (q + 1), none⟩ = some (.int .i64 y) from fun W w5 hB hg =>
        ⟨(hg.cell_far ⟨b, off + q, none⟩ (Nat.lt_of_lt_of_le hbr hB.size) hneb).trans (hk0 W hB).1, (hg.cell_far ⟨b, off + (q + 1), none⟩ (Nat.lt_of_lt_of_le hbr hB.size) hneb).trans (hk0 W hB).2⟩)
      clear hk0 hneb
      obtain ⟨i0, hi0, hz0, hs0, hy0⟩ := info_parts info_Pair
      go_region_held_law (fun w' => w'.cell? ⟨b, off + q, none⟩ = some (.int .i64 x) ∧ w'.cell? ⟨b, off + (q + 1), none⟩ = some (.int .i64 y))
        (first | exact HK.out _ (Below.drew (Below.refl _ _)) | exact HK.out _ (Below.alloc (Below.drew (Below.refl _ _)) (Nat.le_refl _) _) | exact HK5.out _ _ (Below.alloc (Below.drew (Below.refl _ _)) (Nat.le_refl _) _) (by assumption) | assumption)
        (first | (refine step_append_lies _ rfl _ _ 30 rfl w.heap.size 114 i0 (.agg #[.int .i64 0, .int .i64 0]) 2 16 Try.underlying30 hi0 hz0 hs0 hy0 (by first | kernel_rfl | simp [Value.cells]) (by decide) (.slice A0 k c0) k (ints (PR (l.take k))) rfl (World.ownsRow.alloc R _) ⟨_, 0, none⟩ 1 1 [.int .i64 x, .int .i64 y] rfl rfl (cell_two_new _ _ _ _) (ints_oneCell .i64 [x, y]) (by decide) (by unfold maxLen; omega) (by omega) (by have := hbl.size; simp; omega) _ rfl ?_; intro g c5 w5 hown hgrow hat hlt5))
      have R5 : Row w5 w.heap.size 114 2 (some ⟨g, 0, none⟩) (k + 1) c5 (PR (l.take (k + 1))) := by rw [PR_take2 (HL.out.symm ▸ hkm), HP.out]; unfold Row; rw [ints_append]; exact hown
      have B5 : Below w.heap.size w w5 := (hbl.drew.alloc hbl.size _).grown hgrow (by have := hbl.size; simp; omega) (fun z hz => by
        cases A0 with
        | none => simp [Value.ownBlock] at hz
        | some a0 =>
          simp only [Value.ownBlock, Option.some.injEq] at hz
          have := R.ge a0 rfl
          omega)
      clear hgrow hat hlt5 hown HK HK5
      go_wp2
      exact ⟨⟨k + 1, q + 2, _, c5, by omega, by omega, Lib.hid (by have := hq.out; omega), by go_num, rfl, R5, B5⟩, by simp [intOf]; omega⟩
    · have hkm : k = m := by have := hq.out; have := HN.out; omega
      subst hkm
      rw [List.take_of_length_le (by have := HL.out; omega)] at R
      have hlt' : (n : Int) ≤ (q : Int) := by omega
      have ha : wr.cell? ⟨b, off, none⟩ = some (.int .i64 a) := by rw [hbl.cell (by exact hb)]; exact HA.out
      have c1 := specPairsOk_any A0 k c0 l wr R.sl HL.out (by unfold maxLen; omega)
      by_cases hak : a = (k : Int)
      · by_cases hpb : pairsB l = true
        · have hg : rowGood a l = true := by unfold rowGood; rw [hpb, decide_eq_true (by rw [HL.out]; exact hak)]; rfl
          have HG := Lib.hid (And.intro hg (show rowSel a l = l by unfold rowSel; rw [if_pos hg]))
          rw [hpb] at c1
          clear hpb hg
          subst hak
          go_wp2_with fail
          refine c1.mono ?_
          rintro e w2 ⟨rfl, b2⟩
          go_wp2
          refine bodyPost_ret (v := .tuple #[.slice A0 k c0, .bool true]) (by simp [results, Try.results71, go_sem, *]) rfl ?_
          rw [HG.out.1, HG.out.2, HL.out]
          exact ⟨_, _, rfl, R.below b2, bstep b2 hbl hbl.size⟩
        · have hpb' : pairsB l = false := by simpa using hpb
          have hg : rowGood a l = false := by unfold rowGood; rw [hpb', Bool.and_false]
          have HG := Lib.hid (And.intro hg (show rowSel a l = [] by unfold rowSel; rw [hg]; rfl))
          rw [hpb'] at c1
          clear hpb hpb' hg
          subst hak
          go_wp2_with fail
          refine c1.mono ?_
          rintro e w2 ⟨rfl, b2⟩
          have f2 := bstep b2 hbl hbl.size
          go_wp2
          refine bodyPost_ret (v := .tuple #[.slice (some ⟨w2.heap.size, 0, none⟩) 0 0, .bool false]) (by simp [results, Try.results71, go_sem, *]) rfl ?_
          rw [HG.out.1, HG.out.2]
          exact ⟨_, _, rfl, row0p (Blk.new w2 _ _) f2.size, f2.alloc f2.size _⟩
      · have hg : rowGood a l = false := by unfold rowGood; rw [decide_eq_false (by rw [HL.out]; exact hak), Bool.false_and]
        have HG := Lib.hid (And.intro hg (show rowSel a l = [] by unfold rowSel; rw [hg]; rfl))
        have hak' : (a == (k : Int)) = false := by simpa using hak
        clear hg c1
        go_wp2
        refine bodyPost_ret (v := .tuple #[.slice (some ⟨wr.heap.size, 0, none⟩) 0 0, .bool false]) (by simp [results, Try.results71, go_sem, *]) rfl ?_
        rw [HG.out.1, HG.out.2]
        exact ⟨_, _, rfl, row0p (Blk.new wr _ _) hbl.size, hbl.alloc hbl.size _⟩
set_option maxHeartbeats 800000 in
theorem specRowPairs_even (A : Option Addr) (n cap : Nat) (w : World) (hn : n ≤ maxLen) (h : n % 2 ≠ 1) :
    Calls Try.prog 71 #[.slice A n cap] w (RetRowB w 114 2 0 [] false) := by
  unfold maxLen at hn
  have hrem : (n : Int).tmod 2 = 0 := by rw [Int.tmod_eq_emod_of_nonneg (by omega)]; omega
  clear h
  go_enter Try.func71, Try.ntmps71
  go_wp2
  refine bodyPost_ret (v := .tuple #[.slice (some ⟨w.heap.size, 0, none⟩) 0 0, .bool false]) (by simp [results, Try.results71, go_sem, *]) rfl ?_
  exact ⟨_, _, rfl, row0p (Blk.new w _ _) (Nat.le_refl _), (Below.refl _ _).alloc (Nat.le_refl _) _⟩
set_option maxHeartbeats 800000 in
theorem specRowPairs_long (A : Option Addr) (n cap : Nat) (w : World) (hn : n ≤ maxLen) (h : n % 2 = 1) (h21 : 21 < n) :
    Calls Try.prog 71 #[.slice A n cap] w (RetRowB w 114 2 0 [] false) := by
  unfold maxLen at hn
  have hrem : (n : Int).tmod 2 = 1 := by rw [Int.tmod_eq_emod_of_nonneg (by omega)]; omega
  have h21' : (21 : Int) < (n : Int) := by omega
  clear h
  go_enter Try.func71, Try.ntmps71
  go_wp2
  refine bodyPost_ret (v := .tuple #[.slice (some ⟨w.heap.size, 0, none⟩) 0 0, .bool false]) (by simp [results, Try.results71, go_sem, *]) rfl ?_
  exact ⟨_, _, rfl, row0p (Blk.new w _ _) (Nat.le_refl _), (Below.refl _ _).alloc (Nat.le_refl _) _⟩
end Go.Proofs.Ytodkcanhlpgpgaa

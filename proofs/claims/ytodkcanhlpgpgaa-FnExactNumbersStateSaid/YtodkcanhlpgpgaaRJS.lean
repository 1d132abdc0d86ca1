/- RowOrders: the reference's. -/
import Derived.Test.YtodkcanhlpgpgaaJ6
import Derived.Test.YtodkcanhlpgpgaaSJob
import Derived.Test.YtodkcanhlpgpgaaP7
import Derived.Deep.RegionHeldLaw
import Derived.Deep.AppendLies
namespace Go.Proofs.Ytodkcanhlpgpgaa
set_option linter.unusedSimpArgs false
set_option linter.unusedVariables false
attribute [local go_sem] n_lt2 n_lt3 n_lt4 n_le2 n_le3
open Go.RowKit
theorem JB_inj {a b : List Jb} (h : JB a = JB b) : a = b := by
  have hl : a.length = b.length := by
    have := congrArg List.length h
    rw [JB_len, JB_len] at this
    omega
  apply List.ext_getElem hl
  intro i h1 h2
  have e : ∀ j, j < 5 → _ := fun j hj => JB_get a i j h1 hj
  have e' : ∀ j, j < 5 → _ := fun j hj => JB_get b i j h2 hj
  rw [h] at e
  have e0 := (e 0 (by decide)).symm.trans (e' 0 (by decide))
  have e1 := (e 1 (by decide)).symm.trans (e' 1 (by decide))
  have e2 := (e 2 (by decide)).symm.trans (e' 2 (by decide))
  have e3 := (e 3 (by decide)).symm.trans (e' 3 (by decide))
  have e4 := (e 4 (by decide)).symm.trans (e' 4 (by decide))
  have ga : a.getD i default = a[i] := by simp [List.getD, h1]
  have gb : b.getD i default = b[i] := by simp [List.getD, h2]
  rw [ga, gb] at e0 e1 e2 e3 e4
  cases ha : a[i]; cases hb : b[i]
  rw [ha, hb] at e0 e1 e2 e3 e4
  simp only [List.getD_cons_zero, List.getD_cons_succ] at e0 e1 e2 e3 e4
  rw [e0, e1, e2, e3, e4]
theorem rowj_get {a : Int} {l : List Jb} {k q t : Nat} (hq : q = 1 + 5 * k) (h : k < l.length) (ht : t < 5) : (a :: JB l).getD (q + t) 0 = [(l.getD k default).i, (l.getD k default).d, (l.getD k default).k, (l.getD k default).v, (l.getD k default).f].getD t 0 := by
  subst hq
  rw [show 1 + 5 * k + t = (k * 5 + t) + 1 by omega, List.getD_cons_succ, JB_get l k t h ht]
theorem jobsB_len {l : List Jb} (h : jobsB l = true) : l.length ≤ 10 := Nat.le_trans (jobsB_all h).1 (by decide)
def rowGoodJ (a : Int) (l : List Jb) : Bool := decide (a = (l.length : Int)) && jobsB l
def rowSelJ (a : Int) (l : List Jb) : List Jb := if rowGoodJ a l = true then l else []
attribute [local go_sem] Ext.cell Ext.frozen

set_option maxRecDepth 100000 in
set_option maxHeartbeats 4000000 in
theorem specRowOrders_good (A : Option Addr) (n cap m : Nat) (a : Int) (l : List Jb) (w : World) (hS : Sl w 1 A n (a :: JB l)) (hl : l.length = m) (hn : n = 5 * m + 1) (hm : m ≤ 8) :
    Calls Try.prog 72 #[.slice A n cap] w (RetRowB w 70 5 (rowSelJ a l).length (JB (rowSelJ a l)) (rowGoodJ a l)) := by
  obtain ⟨b, off, rfl, hb, hcell⟩ := hS.at_ (by omega)
  have hrem : (n : Int).tmod 5 = 1 := by rw [Int.tmod_eq_emod_of_nonneg (by omega)]; omega
  have hn21 : (n : Int) ≤ 41 := by omega
  have ha := hcell 0 (by omega)
  simp only [Nat.add_zero, List.getD_cons_zero] at ha
  have HA := Lib.hid ha
  have HC := Lib.hid (show ∀ k q, q = 1 + 5 * k → k < m → w.cell? ⟨b, off + q, none⟩ = some (.int .i64 (l.getD k default).i) ∧ w.cell? ⟨b, off + (q + 1), none⟩ = some (.int .i64 (l.getD k default).d) ∧ w.cell? ⟨b, off + (q + 2), none⟩ = some (.int .i64 (l.getD k default).k) ∧ w.cell? ⟨b, off + (q + 3), none⟩ = some (.int .i64 (l.getD k default).v) ∧ w.cell? ⟨b, off + (q + 4), none⟩ = some (.int .i64 (l.getD k default).f) from fun k q hq hk => by
    have hg := fun t ht => rowj_get (a := a) (t := t) hq (hl.symm ▸ hk) ht
    rw [hcell q (by omega), hcell (q + 1) (by omega), hcell (q + 2) (by omega), hcell (q + 3) (by omega), hcell (q + 4) (by omega), hg 1 (by decide), hg 2 (by decide), hg 3 (by decide), hg 4 (by decide)]
    have g0 := hg 0 (by decide)
    rw [Nat.add_zero] at g0
    rw [g0]
    exact ⟨rfl, rfl, rfl, rfl, rfl⟩)
  have hn0 : 0 < n := by omega
  have HN := Lib.hid hn
  have HL := Lib.hid hl
  clear hS hcell ha hn hl
  go_enter Try.func72, Try.ntmps72
  go_wp2
  go_loopw [4, 5] (fun o i wr => ∃ k q A0 c0, k ≤ m ∧ q ≤ n ∧ Hid (q = 1 + 5 * k) ∧ i = .int .i64 (q : Nat) ∧ o = .slice A0 k c0 ∧ Row wr w.heap.size 70 5 A0 k c0 (JB (l.take k)) ∧ Below w.heap.size w wr) (fun _ i _ => n - (intOf i).toNat)
  case atStart => exact ⟨0, 1, _, _, by omega, by omega, Lib.hid rfl, rfl, rfl, row0p (Blk.new w _ _) (Nat.le_refl _), (Below.refl _ _).alloc (Nat.le_refl _) _⟩
  case round =>
    obtain ⟨k, q, A0, c0, hk, hqn, hq, rfl, rfl, R, hbl⟩ := hrel
    by_cases hlt : q < n
    · have hkm : k < m := by have := hq.out; have := HN.out; omega
      have hq1 : q + 4 < n := by have := hq.out; have := HN.out; omega
      obtain ⟨h0, h1, h2, h3, h4⟩ := HC.out k q hq.out hkm
      rw [← hbl.cell (by exact hb)] at h0 h1 h2 h3 h4
      generalize hp : l.getD k default = p at h0 h1 h2 h3 h4
      obtain ⟨x0, x1, x2, x3, x4⟩ := p
      simp only at h0 h1 h2 h3 h4
      have HP := Lib.hid hp
      clear hp
      have hbr : b < wr.heap.size := Nat.lt_of_lt_of_le hb hbl.size
      have hlt' : (q : Int) < (n : Int) := by omega
      have hb1 : (q : Int) + 1 < (n : Int) := by omega
      have hg1 : (0 : Int) ≤ (q : Int) + 1 := by omega
      have hn1 : ¬ (n : Int) ≤ (q : Int) + 1 := by omega
      have hd1 : decide ((q : Int) + 1 < (n : Int)) = true := decide_eq_true (by omega)
      have ht1 : ((q : Int) + 1).toNat = q + 1 := by omega
      have hw1 : IntKind.i64.wrap ((q : Int) + 1) = (q : Int) + 1 := by simp [IntKind.wrap, IntKind.bits, IntKind.signed]; omega
      have hb2 : (q : Int) + 2 < (n : Int) := by omega
      have hg2 : (0 : Int) ≤ (q : Int) + 2 := by omega
      have hn2 : ¬ (n : Int) ≤ (q : Int) + 2 := by omega
      have hd2 : decide ((q : Int) + 2 < (n : Int)) = true := decide_eq_true (by omega)
      have ht2 : ((q : Int) + 2).toNat = q + 2 := by omega
      have hw2 : IntKind.i64.wrap ((q : Int) + 2) = (q : Int) + 2 := by simp [IntKind.wrap, IntKind.bits, IntKind.signed]; omega
      have hb3 : (q : Int) + 3 < (n : Int) := by omega
      have hg3 : (0 : Int) ≤ (q : Int) + 3 := by omega
      have hn3 : ¬ (n : Int) ≤ (q : Int) + 3 := by omega
      have hd3 : decide ((q : Int) + 3 < (n : Int)) = true := decide_eq_true (by omega)
      have ht3 : ((q : Int) + 3).toNat = q + 3 := by omega
      have hw3 : IntKind.i64.wrap ((q : Int) + 3) = (q : Int) + 3 := by simp [IntKind.wrap, IntKind.bits, IntKind.signed]; omega
      have hb4 : (q : Int) + 4 < (n : Int) := by omega
      have hg4 : (0 : Int) ≤ (q : Int) + 4 := by omega
      have hn4 : ¬ (n : Int) ≤ (q : Int) + 4 := by omega
      have hd4 : decide ((q : Int) + 4 < (n : Int)) = true := decide_eq_true (by omega)
      have ht4 : ((q : Int) + 4).toNat = q + 4 := by omega
      have hw4 : IntKind.i64.wrap ((q : Int) + 4) = (q : Int) + 4 := by simp [IntKind.wrap, IntKind.bits, IntKind.signed]; omega
      go_wp2
      have hk0 : ∀ w', Below wr.heap.size wr w' → w'.cell? ⟨b, off + q, none⟩ = some (.int .i64 x0) ∧ w'.cell? ⟨b, off + (q + 1), none⟩ = some (.int .i64 x1) ∧ w'.cell? ⟨b, off + (q + 2), none⟩ = some (.int .i64 x2) ∧ w'.cell? ⟨b, off + (q + 3), none⟩ = some (.int .i64 x3) ∧ w'.cell? ⟨b, off + (q + 4), none⟩ = some (.int .i64 x4) := fun w' hB => ⟨(hB.cell hbr).trans h0, (hB.cell hbr).trans h1, (hB.cell hbr).trans h2, (hB.cell hbr).trans h3, (hB.cell hbr).trans h4⟩
      have HK := Lib.hid hk0
      have hneb : some b ≠ (Value.slice A0 k c0).ownBlock := by
        cases A0 with
        | none => simp [Value.ownBlock]
        | some a0 =>
          have := R.ge a0 rfl
          simp only [Value.ownBlock, ne_eq, Option.some.injEq]
          omega
      have HK5 := Lib.hid (show ∀ W w5, Below wr.heap.size wr W → W.grownBy w5 (Value.slice A0 k c0).ownBlock → w5.cell? ⟨b, off + q, none⟩ = some (.int .i64 x0) ∧ w5.cell? ⟨b, off + (q + 1), none⟩ = some (.int .i64 x1) ∧ w5.cell? ⟨b, off + (q + 2), none⟩ = some (.int .i64 x2) ∧ w5.cell? ⟨b, off + (q + 3), none⟩ = some (.int .i64 x3) ∧ w5.cell? ⟨b, off + (q + 4), none⟩ = some (.int .i64 x4) from fun W w5 hB hg =>
        ⟨(hg.cell_far ⟨b, off + q, none⟩ (Nat.lt_of_lt_of_le hbr hB.size) hneb).trans ((hB.cell hbr).trans h0), (hg.cell_far ⟨b, off + (q + 1), none⟩ (Nat.lt_of_lt_of_le hbr hB.size) hneb).trans ((hB.cell hbr).trans h1), (hg.cell_far ⟨b, off + (q + 2), none⟩ (Nat.lt_of_lt_of_le hbr hB.size) hneb).trans ((hB.cell hbr).trans h2), (hg.cell_far ⟨b, off + (q + 3), none⟩ (Nat.lt_of_lt_of_le hbr hB.size) hneb).trans ((hB.cell hbr).trans h3), (hg.cell_far ⟨b, off + (q + 4), none⟩ (Nat.lt_of_lt_of_le hbr hB.size) hneb).trans ((hB.cell hbr).trans h4)⟩)
      clear hk0 hneb
      obtain ⟨i0, hi0, hz0, hs0, hy0⟩ := info_parts info_Job
      go_region_held_law (fun w' => w'.cell? ⟨b, off + q, none⟩ = some (.int .i64 x0) ∧ w'.cell? ⟨b, off + (q + 1), none⟩ = some (.int .i64 x1) ∧ w'.cell? ⟨b, off + (q + 2), none⟩ = some (.int .i64 x2) ∧ w'.cell? ⟨b, off + (q + 3), none⟩ = some (.int .i64 x3) ∧ w'.cell? ⟨b, off + (q + 4), none⟩ = some (.int .i64 x4))
        (first | exact HK.out _ (Below.drew (Below.refl _ _)) | exact HK.out _ (Below.alloc (Below.drew (Below.refl _ _)) (Nat.le_refl _) _) | exact HK5.out _ _ (Below.alloc (Below.drew (Below.refl _ _)) (Nat.le_refl _) _) (by assumption) | assumption)
        (first | (refine step_append_lies _ rfl _ _ 31 rfl w.heap.size 70 i0 (.agg #[.int .i64 0, .int .i64 0, .int .i64 0, .int .i64 0, .int .i64 0]) 5 40 Try.underlying31 hi0 hz0 hs0 hy0 (by first | kernel_rfl | simp [Value.cells]) (by decide) (.slice A0 k c0) k (ints (JB (l.take k))) rfl (World.ownsRow.alloc R _) ⟨_, 0, none⟩ 1 1 [.int .i64 x0, .int .i64 x1, .int .i64 x2, .int .i64 x3, .int .i64 x4] rfl rfl (cell_five_at _ _ _ _ _ _ _ _ rfl) (ints_oneCell .i64 [x0, x1, x2, x3, x4]) (by decide) (by unfold maxLen; omega) (by omega) (by have := hbl.size; simp; omega) _ rfl ?_; intro g c5 w5 hown hgrow hat hlt5))
      have R5 : Row w5 w.heap.size 70 5 (some ⟨g, 0, none⟩) (k + 1) c5 (JB (l.take (k + 1))) := by rw [JB_take (HL.out.symm ▸ hkm), HP.out]; unfold Row; rw [ints_append]; exact hown
      have B5 : Below w.heap.size w w5 := (hbl.drew.alloc hbl.size _).grown hgrow (by have := hbl.size; simp; omega) (fun z hz => by
        cases A0 with
        | none => simp [Value.ownBlock] at hz
        | some a0 =>
          simp only [Value.ownBlock, Option.some.injEq] at hz
          have := R.ge a0 rfl
          omega)
      clear hgrow hat hlt5 hown HK HK5
      have hw5 : IntKind.i64.wrap ((q : Int) + 5) = (q : Int) + 5 := by simp [IntKind.wrap, IntKind.bits, IntKind.signed]; omega
      go_wp2
      exact ⟨⟨k + 1, q + 5, _, c5, by omega, by omega, Lib.hid (by have := hq.out; omega), by go_num, rfl, R5, B5⟩, by simp [intOf]; omega⟩
    · have hkm : k = m := by have := hq.out; have := HN.out; omega
      subst hkm
      rw [List.take_of_length_le (by have := HL.out; omega)] at R
      have hlt' : (n : Int) ≤ (q : Int) := by omega
      have ha : wr.cell? ⟨b, off, none⟩ = some (.int .i64 a) := by rw [hbl.cell (by exact hb)]; exact HA.out
      have c1 := specJobsOk_any A0 k c0 l wr R.sl HL.out (by unfold maxLen; omega)
      by_cases hak : a = (k : Int)
      · by_cases hpb : jobsB l = true
        · have hg : rowGoodJ a l = true := by unfold rowGoodJ; rw [hpb, decide_eq_true (by rw [HL.out]; exact hak)]; rfl
          have HG := Lib.hid (And.intro hg (show rowSelJ a l = l by unfold rowSelJ; rw [if_pos hg]))
          rw [hpb] at c1
          clear hpb hg
          subst hak
          go_wp2_with fail
          refine c1.mono ?_
          rintro e w2 ⟨rfl, b2⟩
          go_wp2
          refine bodyPost_ret (v := .tuple #[.slice A0 k c0, .bool true]) (by simp [results, Try.results72, go_sem, *]) rfl ?_
          rw [HG.out.1, HG.out.2, HL.out]
          exact ⟨_, _, rfl, R.below b2, bstep b2 hbl hbl.size⟩
        · have hpb' : jobsB l = false := by simpa using hpb
          have hg : rowGoodJ a l = false := by unfold rowGoodJ; rw [hpb', Bool.and_false]
          have HG := Lib.hid (And.intro hg (show rowSelJ a l = [] by unfold rowSelJ; rw [hg]; rfl))
          rw [hpb'] at c1
          clear hpb hpb' hg
          subst hak
          go_wp2_with fail
          refine c1.mono ?_
          rintro e w2 ⟨rfl, b2⟩
          have f2 := bstep b2 hbl hbl.size
          go_wp2
          refine bodyPost_ret (v := .tuple #[.slice (some ⟨w2.heap.size, 0, none⟩) 0 0, .bool false]) (by simp [results, Try.results72, go_sem, *]) rfl ?_
          rw [HG.out.1, HG.out.2]
          exact ⟨_, _, rfl, row0p (Blk.new w2 _ _) f2.size, f2.alloc f2.size _⟩
      · have hg : rowGoodJ a l = false := by unfold rowGoodJ; rw [decide_eq_false (by rw [HL.out]; exact hak), Bool.false_and]
        have HG := Lib.hid (And.intro hg (show rowSelJ a l = [] by unfold rowSelJ; rw [hg]; rfl))
        have hak' : (a == (k : Int)) = false := by simpa using hak
        clear hg c1
        go_wp2
        refine bodyPost_ret (v := .tuple #[.slice (some ⟨wr.heap.size, 0, none⟩) 0 0, .bool false]) (by simp [results, Try.results72, go_sem, *]) rfl ?_
        rw [HG.out.1, HG.out.2]
        exact ⟨_, _, rfl, row0p (Blk.new wr _ _) hbl.size, hbl.alloc hbl.size _⟩
set_option maxHeartbeats 800000 in
theorem specRowOrders_odd (A : Option Addr) (n cap : Nat) (w : World) (hn : n ≤ maxLen) (h : n % 5 ≠ 1) :
    Calls Try.prog 72 #[.slice A n cap] w (RetRowB w 70 5 0 [] false) := by
  unfold maxLen at hn
  obtain ⟨r, hrr, hr⟩ : ∃ r : Nat, r = n % 5 ∧ ¬ (r : Int) = 1 := ⟨_, rfl, by omega⟩
  have hrem : (n : Int).tmod 5 = (r : Int) := by rw [Int.tmod_eq_emod_of_nonneg (by omega)]; omega
  clear h hrr
  go_enter Try.func72, Try.ntmps72
  go_wp2
  refine bodyPost_ret (v := .tuple #[.slice (some ⟨w.heap.size, 0, none⟩) 0 0, .bool false]) (by simp [results, Try.results72, go_sem, *]) rfl ?_
  exact ⟨_, _, rfl, row0p (Blk.new w _ _) (Nat.le_refl _), (Below.refl _ _).alloc (Nat.le_refl _) _⟩
set_option maxHeartbeats 800000 in
theorem specRowOrders_long (A : Option Addr) (n cap : Nat) (w : World) (hn : n ≤ maxLen) (h : n % 5 = 1) (h21 : 41 < n) :
    Calls Try.prog 72 #[.slice A n cap] w (RetRowB w 70 5 0 [] false) := by
  unfold maxLen at hn
  have hrem : (n : Int).tmod 5 = 1 := by rw [Int.tmod_eq_emod_of_nonneg (by omega)]; omega
  have h21' : (41 : Int) < (n : Int) := by omega
  clear h
  go_enter Try.func72, Try.ntmps72
  go_wp2
  refine bodyPost_ret (v := .tuple #[.slice (some ⟨w.heap.size, 0, none⟩) 0 0, .bool false]) (by simp [results, Try.results72, go_sem, *]) rfl ?_
  exact ⟨_, _, rfl, row0p (Blk.new w _ _) (Nat.le_refl _), (Below.refl _ _).alloc (Nat.le_refl _) _⟩
end Go.Proofs.Ytodkcanhlpgpgaa

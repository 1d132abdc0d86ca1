/- takePairs: a list read off a cursor. -/
import Derived.Test.YtodkcanhlpgpgaaP9
import Derived.Test.YtodkcanhlpgpgaaCur2
import Derived.Deep.RegionHeldLaw
import Derived.Deep.AppendLies
namespace Go.Proofs.Ytodkcanhlpgpgaa
set_option linter.unusedSimpArgs false
set_option linter.unusedVariables false
attribute [local go_sem] n_lt2 n_lt3 n_lt4 n_le2 n_le3
open Go.RowKit
attribute [local go_sem] Ext.cell Ext.frozen

theorem PR_cell (l : List Pr) (k t : Nat) (h : k < l.length) (ht : t < 2) : (PR l).getD (k * 2 + t) 0 = [(l.getD k default).k, (l.getD k default).v].getD t 0 := by
  rcases (by omega : t = 0 ∨ t = 1) with rfl | rfl
  · exact PR_get0 l k h
  · exact PR_get1 l k h
theorem takePairs_no (p n cap at_ : Nat) (A : Option Addr) (zs : List Int) (w : World) (K : RCur w p 87 A n cap at_) (hS : Sl w 1 A n zs) (hn : n ≤ 1048576) (hc : n ≤ cap) (hcm : cap ≤ maxLen) (hat : at_ ≤ n) (hAp : ∀ a, A = some a → a.block ≠ p)
    (hno : at_ < n → ¬ (0 ≤ zs.getD at_ 0 ∧ zs.getD at_ 0 ≤ 10 ∧ zs.getD at_ 0 * 2 + at_ + 1 ≤ n)) :
    Calls Try.prog 75 #[.pointer (some ⟨p, 0, none⟩)] w (TakeNo p 87 A n cap w) := by
  rcases Nat.lt_or_ge at_ n with hlt | hge
  · obtain ⟨b, off, rfl, hb, hcell⟩ := hS.at_ (by omega)
    have hx := hcell at_ (by omega)
    have hno := hno hlt
    have hbp : b ≠ p := hAp _ rfl
    have c1 := next_yes p n cap at_ b off _ w K hx hlt (by unfold maxLen; omega) hbp
    generalize zs.getD at_ 0 = x at hno c1
    clear hx hcell hS
    by_cases hin : inB x 0 10 = true
    · have hi := (inB_iff _ _ _).1 hin
      have hmul : IntKind.i64.wrap (2 * x) = 2 * x := by simp [IntKind.wrap, IntKind.bits, IntKind.signed]; omega
      have hbig : ¬ (x * 2 + at_ + 1 ≤ n) := fun h => hno ⟨hi.1, hi.2, h⟩
      clear hno
      go_enter Try.func75, Try.ntmps75
      go_wp2_with fail
      refine c1.mono ?_
      rintro e w1 ⟨rfl, K1, W1⟩
      go_wp2_with ((go_at_call 45; refine (between_any _ _ _ _).mono ?_; rintro e w' ⟨rfl, rfl⟩))
      refine (take_no p n cap (at_ + 1) _ _ w1 K1 (by unfold maxLen; omega) (by omega) (by omega)).mono ?_
      rintro e w2 ⟨rfl, K2, W2⟩
      have hl2 := K2.blk.lt
      go_wp2
      go_loop [6, 8] (fun pt lv => pt = .slice none 0 0 ∧ lv = .slice (some ⟨w2.heap.size, 0, none⟩) 0 0) (fun _ _ => 0)
      case atStart => exact ⟨rfl, rfl⟩
      case round =>
        obtain ⟨rfl, rfl⟩ := hrel
        go_wp2
        refine bodyPost_ret (v := .tuple #[.slice (some ⟨w2.heap.size, 0, none⟩) 0 0, .bool false]) (by simp [results, Try.results75, go_sem, *]) rfl ⟨_, _, _, at_ + 1, rfl, by omega, K2.blk.alloc _, ?_⟩
        exact wrote_then (wrote_trans W1 W2) ((Below.refl _ _).alloc (Nat.le_refl _) _)
    · have hin' : inB x 0 10 = false := by simpa using hin
      clear hno hin
      go_enter Try.func75, Try.ntmps75
      go_wp2_with fail
      refine c1.mono ?_
      rintro e w1 ⟨rfl, K1, W1⟩
      go_wp2_with ((go_at_call 45; refine (between_any _ _ _ _).mono ?_; rintro e w' ⟨rfl, rfl⟩))
      refine bodyPost_ret (v := .tuple #[.slice none 0 0, .bool false]) (by simp [results, Try.results75, go_sem, *]) rfl ⟨_, _, _, at_ + 1, rfl, by omega, K1, W1⟩
  · obtain rfl : at_ = n := by omega
    clear hno hS
    go_enter Try.func75, Try.ntmps75
    go_wp2_with fail
    refine (next_no p at_ cap A w K (by unfold maxLen; omega)).mono ?_
    rintro e w1 ⟨rfl, K1, W1⟩
    go_wp2
    refine bodyPost_ret (v := .tuple #[.slice none 0 0, .bool false]) (by simp [results, Try.results75, go_sem, *]) rfl ⟨_, _, _, at_, rfl, by omega, K1, W1⟩
set_option maxRecDepth 100000 in
set_option maxHeartbeats 2000000 in
theorem takePairs_yes (p n cap at_ m : Nat) (b off : Nat) (zs : List Int) (l : List Pr) (w : World) (K : RCur w p 87 (some ⟨b, off, none⟩) n cap at_) (hS : Sl w 1 (some ⟨b, off, none⟩) n zs) (hn : n ≤ 1048576) (hc : n ≤ cap) (hcm : cap ≤ maxLen) (hbp : b ≠ p)
    (hm : m ≤ 10) (hx : zs.getD at_ 0 = (m : Int)) (hfit : at_ + 1 + 2 * m ≤ n) (hl : l.length = m) (hseg : (zs.drop (at_ + 1)).take (2 * m) = PR l) :
    Calls Try.prog 75 #[.pointer (some ⟨p, 0, none⟩)] w (TakeYes p 87 114 2 (some ⟨b, off, none⟩) n cap (at_ + 1 + 2 * m) m (PR l) w) := by
  obtain ⟨b', off', hA, hb, hcell⟩ := hS.at_ (by omega)
  injection hA with hA
  injection hA with hA1 hA2
  subst hA1 hA2
  have hxc := hcell at_ (by omega)
  rw [hx] at hxc
  have c1 := next_yes p n cap at_ b off _ w K hxc (by omega) (by unfold maxLen; omega) hbp
  have HS := Lib.hid hS
  have HL := Lib.hid hl
  have HG := Lib.hid hseg
  have hin : inB (m : Int) 0 10 = true := (inB_iff _ _ _).2 ⟨by omega, by omega⟩
  have hmul : IntKind.i64.wrap (2 * (m : Int)) = 2 * (m : Int) := by simp [IntKind.wrap, IntKind.bits, IntKind.signed]; omega
  clear hx hxc hcell hS hl hseg K
  go_enter Try.func75, Try.ntmps75
  go_wp2_with fail
  refine c1.mono ?_
  rintro e w1 ⟨rfl, K1, W1⟩
  go_wp2_with ((go_at_call 45; refine (between_any _ _ _ _).mono ?_; rintro e w' ⟨rfl, rfl⟩))
  have S1 := HS.out.wrote W1 (fun _ a c ha hcc => by
    obtain rfl := Option.some.inj ha
    obtain rfl := Option.some.inj hcc
    exact hbp)
  refine (take_all p n cap (at_ + 1) (2 * m) b off _ zs w1 K1 S1 hn hc hcm (by omega) hbp (by omega)).mono ?_
  rintro e w2 ⟨A', c', rfl, R2, K2, W2⟩
  rw [HG.out] at R2
  have hp2 := K2.blk.lt
  obtain ⟨g, HP⟩ : ∃ g, Hid (0 < m → A' = some ⟨g, 0, none⟩ ∧ g < w2.heap.size ∧ ∀ k q, q = 2 * k → k < m → w2.cell? ⟨g, q, none⟩ = some (.int .i64 (l.getD k default).k) ∧ w2.cell? ⟨g, q + 1, none⟩ = some (.int .i64 (l.getD k default).v)) := by
    rcases Nat.eq_zero_or_pos m with h0 | h0
    · exact ⟨0, fun h => absurd h (by omega)⟩
    · obtain ⟨g, cs, rfl, hlo, hblk, _, _, _, hj⟩ := R2.blk (by omega)
      refine ⟨g, fun _ => ⟨rfl, hblk.lt, fun k q hq hk => ?_⟩⟩
      subst hq
      have hg : ∀ t, t < 2 → w2.cell? ⟨g, 2 * k + t, none⟩ = some (.int .i64 ([(l.getD k default).k, (l.getD k default).v].getD t 0)) := fun t ht => by
        rw [hblk.cell, hj _ (by omega), Nat.mul_comm 2 k, PR_cell l k t (HL.out.symm ▸ hk) ht]
      exact ⟨hg 0 (by decide), hg 1 (by decide)⟩
  have hcap : 2 * m ≤ c' ∧ c' ≤ maxLen := R2.cap_le
  have HC := Lib.hid hcap
  have HK2 := Lib.hid K2
  have HW := Lib.hid (And.intro W1.size W2.size)
  have HW2 := Lib.hid (wrote_trans W1 W2)
  obtain ⟨r0, hr0⟩ : ∃ r0, r0 = 2 * m := ⟨_, rfl⟩
  rw [← hr0]
  have HR := Lib.hid hr0
  have hrb : r0 ≤ 1000 := by omega
  clear hcap K1 K2 W1 W2 S1 c1 R2 hr0
  go_wp2
  go_loopw [6, 8] (fun pt lv wr => ∃ k P r c A0 c0, k ≤ m ∧ r ≤ 1000 ∧ Hid (r + 2 * k = 2 * m) ∧ Hid (c + 2 * k = c') ∧ Hid (k < m → P = some ⟨g, 2 * k, none⟩) ∧ pt = .slice P r c ∧ lv = .slice A0 k c0 ∧ Row wr w2.heap.size 114 2 A0 k c0 (PR (l.take k)) ∧ Below w2.heap.size w2 wr) (fun pt _ _ => slen pt)
  case atStart => exact ⟨0, A', r0, c', _, _, by omega, hrb, Lib.hid (by have := HR.out; omega), Lib.hid (by omega), Lib.hid (fun h => by rw [(HP.out h).1, Nat.mul_zero]), rfl, rfl, row0p (Blk.new w2 _ _) (Nat.le_refl _), (Below.refl _ _).alloc (Nat.le_refl _) _⟩
  case round =>
    obtain ⟨k, P, r, c, A0, c0, hk, hrb, hr, hcc, hP, rfl, rfl, R, hbl⟩ := hrel
    by_cases hlt : k < m
    · obtain ⟨o, ho⟩ : ∃ o, o = 2 * k := ⟨_, rfl⟩
      have hP' := hP.out hlt
      rw [← ho] at hP'
      subst hP'
      obtain ⟨h0, h1⟩ := (HP.out (by omega)).2.2 k o ho hlt
      have hgl := (HP.out (by omega)).2.1
      have HO := Lib.hid ho
      clear ho hP
      rw [← hbl.cell (by exact hgl)] at h0 h1
      generalize hp : l.getD k default = pp at h0 h1
      obtain ⟨x0, x1⟩ := pp
      simp only at h0 h1
      have HPP := Lib.hid hp
      clear hp
      have hgr : g < wr.heap.size := Nat.lt_of_lt_of_le hgl hbl.size
      have hrs : 2 ≤ r := by have := hr.out; omega
      have hrc : r ≤ c := by have := hr.out; have := hcc.out; have := HC.out.1; omega
      have hcm2 : c ≤ 9223372036854775807 := by have := hcc.out; have := HC.out.2; unfold maxLen at this; omega
      have hrp : 0 < r := by omega
      have hri : (2 : Int) ≤ (r : Int) := by omega
      have hrci : (r : Int) ≤ (c : Int) := by omega
      have hi0 : (0 : Int) < (r : Int) := by omega
      have hi1 : (1 : Int) < (r : Int) := by omega
      go_wp2
      have hk0 : ∀ w', Below wr.heap.size wr w' → w'.cell? ⟨g, o, none⟩ = some (.int .i64 x0) ∧ w'.cell? ⟨g, o + 1, none⟩ = some (.int .i64 x1) := fun w' hB => ⟨(hB.cell hgr).trans h0, (hB.cell hgr).trans h1⟩
      have HKK := Lib.hid hk0
      have hneb : some g ≠ (Value.slice A0 k c0).ownBlock := by
        cases A0 with
        | none => simp [Value.ownBlock]
        | some a0 =>
          have := R.ge a0 rfl
          simp only [Value.ownBlock, ne_eq, Option.some.injEq]
          omega
      have HK5 := Lib.hid (show ∀ W w5, Below wr.heap.size wr W → W.grownBy w5 (Value.slice A0 k c0).ownBlock → w5.cell? ⟨g, o, none⟩ = some (.int .i64 x0) ∧ w5.cell? ⟨g, o + 1, none⟩ = some (.int .i64 x1) from fun W w5 hB hg =>
        ⟨(hg.cell_far ⟨g, o, none⟩ (Nat.lt_of_lt_of_le hgr hB.size) hneb).trans ((hB.cell hgr).trans h0), (hg.cell_far ⟨g, o + 1, none⟩ (Nat.lt_of_lt_of_le hgr hB.size) hneb).trans ((hB.cell hgr).trans h1)⟩)
      clear hk0 hneb
      obtain ⟨i0, hi0, hz0, hs0, hy0⟩ := info_parts info_Pair
      go_region_held_law (fun w' => w'.cell? ⟨g, o, none⟩ = some (.int .i64 x0) ∧ w'.cell? ⟨g, o + 1, none⟩ = some (.int .i64 x1))
        (first | exact HKK.out _ (Below.drew (Below.refl _ _)) | exact HKK.out _ (Below.alloc (Below.drew (Below.refl _ _)) (Nat.le_refl _) _) | exact HK5.out _ _ (Below.alloc (Below.drew (Below.refl _ _)) (Nat.le_refl _) _) (by assumption) | assumption)
        (first | (refine step_append_lies _ rfl _ _ 30 rfl w2.heap.size 114 i0 (.agg #[.int .i64 0, .int .i64 0]) 2 16 Try.underlying30 hi0 hz0 hs0 hy0 (by first | kernel_rfl | simp [Value.cells]) (by decide) (.slice A0 k c0) k (ints (PR (l.take k))) rfl (World.ownsRow.alloc R _) ⟨_, 0, none⟩ 1 1 [.int .i64 x0, .int .i64 x1] rfl rfl (cell_two_new _ _ _ _) (ints_oneCell .i64 [x0, x1]) (by decide) (by unfold maxLen; omega) (by omega) (by have := hbl.size; simp; omega) _ rfl ?_; intro g5 c5 w5 hown hgrow hat5 hlt5))
      have R5 : Row w5 w2.heap.size 114 2 (some ⟨g5, 0, none⟩) (k + 1) c5 (PR (l.take (k + 1))) := by rw [PR_take2 (HL.out.symm ▸ hlt), HPP.out]; unfold Row; rw [ints_append]; exact hown
      have B5 : Below w2.heap.size w2 w5 := (hbl.drew.alloc hbl.size _).grown hgrow (by have := hbl.size; simp; omega) (fun z hz => by
        cases A0 with
        | none => simp [Value.ownBlock] at hz
        | some a0 =>
          simp only [Value.ownBlock, Option.some.injEq] at hz
          have := R.ge a0 rfl
          omega)
      clear hgrow hat5 hlt5 hown HKK HK5 h0 h1
      by_cases hcs : c = 2
      · go_wp2
        exact ⟨⟨k + 1, _, r - 2, c - 2, _, c5, by omega, by omega, Lib.hid (by have := hr.out; omega), Lib.hid (by have := hcc.out; omega), Lib.hid (fun h => absurd h (by have := hr.out; omega)), by rw [hcs], rfl, R5, B5⟩, by show r - 2 < r; omega⟩
      · go_wp2
        exact ⟨⟨k + 1, _, r - 2, c - 2, _, c5, by omega, by omega, Lib.hid (by have := hr.out; omega), Lib.hid (by have := hcc.out; omega), Lib.hid (fun _ => congrArg (fun z => some (⟨g, z, none⟩ : Addr)) (by have := HO.out; omega)), rfl, rfl, R5, B5⟩, by show r - 2 < r; omega⟩
    · have hkm : k = m := by omega
      subst hkm
      have hr0 : r = 0 := by have := hr.out; omega
      subst hr0
      rw [List.take_of_length_le (by have := HL.out; omega)] at R
      go_wp2
      refine bodyPost_ret (v := .tuple #[.slice A0 k c0, .bool true]) (by simp [results, Try.results75, go_sem, *]) rfl ⟨A0, c0, rfl, ?_, ?_, ?_⟩
      · exact R.mono (Nat.le_trans HW.out.1 HW.out.2)
      · exact HK2.out.blk.below hbl
      · exact wrote_then HW2.out hbl
end Go.Proofs.Ytodkcanhlpgpgaa

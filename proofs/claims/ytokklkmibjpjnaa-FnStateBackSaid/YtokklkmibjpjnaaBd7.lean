/- Part 7 of what the claim rests on: TJ, N1, N2, N3, RP, RJ, Lease8, N4, N5, N6, N7, Like. No condition of its own. -/
import Derived.Test.YtokklkmibjpjnaaBd6
import Derived.Deep.RegionHeldLaw
import Derived.Deep.AppendLies
import Derived.Deep.RegionHeld3
namespace Go.Proofs.Ytokklkmibjpjnaa
set_option linter.unusedSimpArgs false
set_option linter.unusedVariables false
attribute [local go_sem] n_lt2 n_lt3 n_lt4 n_le2 n_le3
open Go.RowKit
attribute [local go_sem] Ext.cell Ext.frozen

theorem JB_cell (l : List Jb) (k t : Nat) (h : k < l.length) (ht : t < 5) : (JB l).getD (k * 5 + t) 0 = [(l.getD k default).i, (l.getD k default).d, (l.getD k default).k, (l.getD k default).v, (l.getD k default).f].getD t 0 := by
  exact JB_get l k t h ht
theorem takeJobs_no (p n cap at_ : Nat) (A : Option Addr) (zs : List Int) (w : World) (K : RCur w p 53 A n cap at_) (hS : Sl w 1 A n zs) (hn : n ≤ 1048576) (hc : n ≤ cap) (hcm : cap ≤ maxLen) (hat : at_ ≤ n) (hAp : ∀ a, A = some a → a.block ≠ p)
    (hno : at_ < n → ¬ (0 ≤ zs.getD at_ 0 ∧ zs.getD at_ 0 ≤ 8 ∧ zs.getD at_ 0 * 5 + at_ + 1 ≤ n)) :
    Calls Try.prog 21 #[.pointer (some ⟨p, 0, none⟩)] w (TakeNo p 53 A n cap w) := by
  rcases Nat.lt_or_ge at_ n with hlt | hge
  · obtain ⟨b, off, rfl, hb, hcell⟩ := hS.at_ (by omega)
    have hx := hcell at_ (by omega)
    have hno := hno hlt
    have hbp : b ≠ p := hAp _ rfl
    have c1 := next_yes p n cap at_ b off _ w K hx hlt (by unfold maxLen; omega) hbp
    generalize zs.getD at_ 0 = x at hno c1
    clear hx hcell hS
    by_cases hin : inB x 0 8 = true
    · have hi := (inB_iff _ _ _).1 hin
      have hmul : IntKind.i64.wrap (5 * x) = 5 * x := by simp [IntKind.wrap, IntKind.bits, IntKind.signed]; omega
      have hbig : ¬ (x * 5 + at_ + 1 ≤ n) := fun h => hno ⟨hi.1, hi.2, h⟩
      clear hno
      go_enter Try.func21, Try.ntmps21
      go_wp2_with fail
      refine c1.mono ?_
      rintro e w1 ⟨rfl, K1, W1⟩
      go_wp2_with ((go_at_call 57; refine (between_any _ _ _ _).mono ?_; rintro e w' ⟨rfl, rfl⟩))
      refine (take_no p n cap (at_ + 1) _ _ w1 K1 (by unfold maxLen; omega) (by omega) (by omega)).mono ?_
      rintro e w2 ⟨rfl, K2, W2⟩
      have hl2 := K2.blk.lt
      go_wp2
      go_loop [6, 8] (fun pt lv => pt = .slice none 0 0 ∧ lv = .slice (some ⟨w2.heap.size, 0, none⟩) 0 0) (fun _ _ => 0)
      case atStart => exact ⟨rfl, rfl⟩
      case round =>
        obtain ⟨rfl, rfl⟩ := hrel
        go_wp2
        refine bodyPost_ret (v := .tuple #[.slice (some ⟨w2.heap.size, 0, none⟩) 0 0, .bool false]) (by simp [results, Try.results21, go_sem, *]) rfl ⟨_, _, _, at_ + 1, rfl, by omega, K2.blk.alloc _, ?_⟩
        exact wrote_then (wrote_trans W1 W2) ((Below.refl _ _).alloc (Nat.le_refl _) _)
    · have hin' : inB x 0 8 = false := by simpa using hin
      clear hno hin
      go_enter Try.func21, Try.ntmps21
      go_wp2_with fail
      refine c1.mono ?_
      rintro e w1 ⟨rfl, K1, W1⟩
      go_wp2_with ((go_at_call 57; refine (between_any _ _ _ _).mono ?_; rintro e w' ⟨rfl, rfl⟩))
      refine bodyPost_ret (v := .tuple #[.slice none 0 0, .bool false]) (by simp [results, Try.results21, go_sem, *]) rfl ⟨_, _, _, at_ + 1, rfl, by omega, K1, W1⟩
  · obtain rfl : at_ = n := by omega
    clear hno hS
    go_enter Try.func21, Try.ntmps21
    go_wp2_with fail
    refine (next_no p at_ cap A w K (by unfold maxLen; omega)).mono ?_
    rintro e w1 ⟨rfl, K1, W1⟩
    go_wp2
    refine bodyPost_ret (v := .tuple #[.slice none 0 0, .bool false]) (by simp [results, Try.results21, go_sem, *]) rfl ⟨_, _, _, at_, rfl, by omega, K1, W1⟩
set_option maxRecDepth 100000 in
set_option maxHeartbeats 2000000 in
theorem takeJobs_yes (p n cap at_ m : Nat) (b off : Nat) (zs : List Int) (l : List Jb) (w : World) (K : RCur w p 53 (some ⟨b, off, none⟩) n cap at_) (hS : Sl w 1 (some ⟨b, off, none⟩) n zs) (hn : n ≤ 1048576) (hc : n ≤ cap) (hcm : cap ≤ maxLen) (hbp : b ≠ p)
    (hm : m ≤ 8) (hx : zs.getD at_ 0 = (m : Int)) (hfit : at_ + 1 + 5 * m ≤ n) (hl : l.length = m) (hseg : (zs.drop (at_ + 1)).take (5 * m) = JB l) :
    Calls Try.prog 21 #[.pointer (some ⟨p, 0, none⟩)] w (TakeYes p 53 70 5 (some ⟨b, off, none⟩) n cap (at_ + 1 + 5 * m) m (JB l) w) := by
  obtain ⟨b', off', hA, hb, hcell⟩ := hS.at_ (by omega)
  injection hA with hA
  injection hA with hA1 hA2
  subst hA1 hA2
  have hxc := hcell at_ (by omega)
  rw [hx] at hxc
  have c1 := next_yes p n cap at_ b off _ w K hxc (by omega) (by unfold maxLen; omega) hbp
  have HS := Lib.hid hS
  have HL := Lib.hid hl
  have HG := Lib.hid hseg
  have hin : inB (m : Int) 0 8 = true := (inB_iff _ _ _).2 ⟨by omega, by omega⟩
  have hmul : IntKind.i64.wrap (5 * (m : Int)) = 5 * (m : Int) := by simp [IntKind.wrap, IntKind.bits, IntKind.signed]; omega
  clear hx hxc hcell hS hl hseg K
  go_enter Try.func21, Try.ntmps21
  go_wp2_with fail
  refine c1.mono ?_
  rintro e w1 ⟨rfl, K1, W1⟩
  go_wp2_with ((go_at_call 57; refine (between_any _ _ _ _).mono ?_; rintro e w' ⟨rfl, rfl⟩))
  have S1 := HS.out.wrote W1 (fun _ a c ha hcc => by
    obtain rfl := Option.some.inj ha
    obtain rfl := Option.some.inj hcc
    exact hbp)
  refine (take_all p n cap (at_ + 1) (5 * m) b off _ zs w1 K1 S1 hn hc hcm (by omega) hbp (by omega)).mono ?_
  rintro e w2 ⟨A', c', rfl, R2, K2, W2⟩
  rw [HG.out] at R2
  have hp2 := K2.blk.lt
  obtain ⟨g, HP⟩ : ∃ g, Hid (0 < m → A' = some ⟨g, 0, none⟩ ∧ g < w2.heap.size ∧ ∀ k q, q = 5 * k → k < m → w2.cell? ⟨g, q, none⟩ = some (.int .i64 (l.getD k default).i) ∧ w2.cell? ⟨g, q + 1, none⟩ = some (.int .i64 (l.getD k default).d) ∧ w2.cell? ⟨g, q + 2, none⟩ = some (.int .i64 (l.getD k default).k) ∧ w2.cell? ⟨g, q + 3, none⟩ = some (.int .i64 (l.getD k default).v) ∧ w2.cell? ⟨g, q + 4, none⟩ = some (.int .i64 (l.getD k default).f)) := by
    rcases Nat.eq_zero_or_pos m with h0 | h0
    · exact ⟨0, fun h => absurd h (by omega)⟩
    · obtain ⟨g, cs, rfl, hlo, hblk, _, _, _, hj⟩ := R2.blk (by omega)
      refine ⟨g, fun _ => ⟨rfl, hblk.lt, fun k q hq hk => ?_⟩⟩
      subst hq
      have hg : ∀ t, t < 5 → w2.cell? ⟨g, 5 * k + t, none⟩ = some (.int .i64 ([(l.getD k default).i, (l.getD k default).d, (l.getD k default).k, (l.getD k default).v, (l.getD k default).f].getD t 0)) := fun t ht => by
        rw [hblk.cell, hj _ (by omega), Nat.mul_comm 5 k, JB_cell l k t (HL.out.symm ▸ hk) ht]
      exact ⟨hg 0 (by decide), hg 1 (by decide), hg 2 (by decide), hg 3 (by decide), hg 4 (by decide)⟩
  have hcap : 5 * m ≤ c' ∧ c' ≤ maxLen := R2.cap_le
  have HC := Lib.hid hcap
  have HK2 := Lib.hid K2
  have HW := Lib.hid (And.intro W1.size W2.size)
  have HW2 := Lib.hid (wrote_trans W1 W2)
  obtain ⟨r0, hr0⟩ : ∃ r0, r0 = 5 * m := ⟨_, rfl⟩
  rw [← hr0]
  have HR := Lib.hid hr0
  have hrb : r0 ≤ 1000 := by omega
  clear hcap K1 K2 W1 W2 S1 c1 R2 hr0
  go_wp2
  go_loopw [6, 8] (fun pt lv wr => ∃ k P r c A0 c0, k ≤ m ∧ r ≤ 1000 ∧ Hid (r + 5 * k = 5 * m) ∧ Hid (c + 5 * k = c') ∧ Hid (k < m → P = some ⟨g, 5 * k, none⟩) ∧ pt = .slice P r c ∧ lv = .slice A0 k c0 ∧ Row wr w2.heap.size 70 5 A0 k c0 (JB (l.take k)) ∧ Below w2.heap.size w2 wr) (fun pt _ _ => slen pt)
  case atStart => exact ⟨0, A', r0, c', _, _, by omega, hrb, Lib.hid (by have := HR.out; omega), Lib.hid (by omega), Lib.hid (fun h => by rw [(HP.out h).1, Nat.mul_zero]), rfl, rfl, row0p (Blk.new w2 _ _) (Nat.le_refl _), (Below.refl _ _).alloc (Nat.le_refl _) _⟩
  case round =>
    obtain ⟨k, P, r, c, A0, c0, hk, hrb, hr, hcc, hP, rfl, rfl, R, hbl⟩ := hrel
    by_cases hlt : k < m
    · obtain ⟨o, ho⟩ : ∃ o, o = 5 * k := ⟨_, rfl⟩
      have hP' := hP.out hlt
      rw [← ho] at hP'
      subst hP'
      obtain ⟨h0, h1, h2, h3, h4⟩ := (HP.out (by omega)).2.2 k o ho hlt
      have hgl := (HP.out (by omega)).2.1
      have HO := Lib.hid ho
      clear ho hP
      rw [← hbl.cell (by exact hgl)] at h0 h1 h2 h3 h4
      generalize hp : l.getD k default = pp at h0 h1 h2 h3 h4
      obtain ⟨x0, x1, x2, x3, x4⟩ := pp
      simp only at h0 h1 h2 h3 h4
      have HPP := Lib.hid hp
      clear hp
      have hgr : g < wr.heap.size := Nat.lt_of_lt_of_le hgl hbl.size
      have hrs : 5 ≤ r := by have := hr.out; omega
      have hrc : r ≤ c := by have := hr.out; have := hcc.out; have := HC.out.1; omega
      have hcm2 : c ≤ 9223372036854775807 := by have := hcc.out; have := HC.out.2; unfold maxLen at this; omega
      have hrp : 0 < r := by omega
      have hri : (5 : Int) ≤ (r : Int) := by omega
      have hrci : (r : Int) ≤ (c : Int) := by omega
      have hi0 : (0 : Int) < (r : Int) := by omega
      have hi1 : (1 : Int) < (r : Int) := by omega
      have hi2 : (2 : Int) < (r : Int) := by omega
      have hi3 : (3 : Int) < (r : Int) := by omega
      have hi4 : (4 : Int) < (r : Int) := by omega
      go_wp2
      have hk0 : ∀ w', Below wr.heap.size wr w' → w'.cell? ⟨g, o, none⟩ = some (.int .i64 x0) ∧ w'.cell? ⟨g, o + 1, none⟩ = some (.int .i64 x1) ∧ w'.cell? ⟨g, o + 2, none⟩ = some (.int .i64 x2) ∧ w'.cell? ⟨g, o + 3, none⟩ = some (.int .i64 x3) ∧ w'.cell? ⟨g, o + 4, none⟩ = some (.int .i64 x4) := fun w' hB => ⟨(hB.cell hgr).trans h0, (hB.cell hgr).trans h1, (hB.cell hgr).trans h2, (hB.cell hgr).trans h3, (hB.cell hgr).trans h4⟩
      have HKK := Lib.hid hk0
      have hneb : some g ≠ (Value.slice A0 k c0).ownBlock := by
        cases A0 with
        | none => simp [Value.ownBlock]
        | some a0 =>
          have := R.ge a0 rfl
          simp only [Value.ownBlock, ne_eq, Option.some.injEq]
          omega
      have HK5 := Lib.hid (show ∀ W w5, Below wr.heap.size wr W → W.grownBy w5 (Value.slice A0 k c0).ownBlock → w5.cell? ⟨g, o, none⟩ = some (.int .i64 x0) ∧ w5.cell? ⟨g, o + 1, none⟩ = some (.int .i64 x1) ∧ w5.cell? ⟨g, o + 2, none⟩ = some (.int .i64 x2) ∧ w5.cell? ⟨g, o + 3, none⟩ = some (.int .i64 x3) ∧ w5.cell? ⟨g, o + 4, none⟩ = some (.int .i64 x4) from fun W w5 hB hg =>
        ⟨(hg.cell_far ⟨g, o, none⟩ (Nat.lt_of_lt_of_le hgr hB.size) hneb).trans ((hB.cell hgr).trans h0), (hg.cell_far ⟨g, o + 1, none⟩ (Nat.lt_of_lt_of_le hgr hB.size) hneb).trans ((hB.cell hgr).trans h1), (hg.cell_far ⟨g, o + 2, none⟩ (Nat.lt_of_lt_of_le hgr hB.size) hneb).trans ((hB.cell hgr).trans h2), (hg.cell_far ⟨g, o + 3, none⟩ (Nat.lt_of_lt_of_le hgr hB.size) hneb).trans ((hB.cell hgr).trans h3), (hg.cell_far ⟨g, o + 4, none⟩ (Nat.lt_of_lt_of_le hgr hB.size) hneb).trans ((hB.cell hgr).trans h4)⟩)
      clear hk0 hneb
      obtain ⟨i0, hi0, hz0, hs0, hy0⟩ := info_parts info_Job
      go_region_held_law (fun w' => w'.cell? ⟨g, o, none⟩ = some (.int .i64 x0) ∧ w'.cell? ⟨g, o + 1, none⟩ = some (.int .i64 x1) ∧ w'.cell? ⟨g, o + 2, none⟩ = some (.int .i64 x2) ∧ w'.cell? ⟨g, o + 3, none⟩ = some (.int .i64 x3) ∧ w'.cell? ⟨g, o + 4, none⟩ = some (.int .i64 x4))
        (first | exact HKK.out _ (Below.drew (Below.refl _ _)) | exact HKK.out _ (Below.alloc (Below.drew (Below.refl _ _)) (Nat.le_refl _) _) | exact HK5.out _ _ (Below.alloc (Below.drew (Below.refl _ _)) (Nat.le_refl _) _) (by assumption) | assumption)
        (first | (refine step_append_lies _ rfl _ _ 25 rfl w2.heap.size 70 i0 (.agg #[.int .i64 0, .int .i64 0, .int .i64 0, .int .i64 0, .int .i64 0]) 5 40 Try.underlying25 hi0 hz0 hs0 hy0 (by first | kernel_rfl | simp [Value.cells]) (by decide) (.slice A0 k c0) k (ints (JB (l.take k))) rfl (World.ownsRow.alloc R _) ⟨_, 0, none⟩ 1 1 [.int .i64 x0, .int .i64 x1, .int .i64 x2, .int .i64 x3, .int .i64 x4] rfl rfl (cell_five_at _ _ _ _ _ _ _ _ rfl) (ints_oneCell .i64 [x0, x1, x2, x3, x4]) (by decide) (by unfold maxLen; omega) (by omega) (by have := hbl.size; simp; omega) _ rfl ?_; intro g5 c5 w5 hown hgrow hat5 hlt5))
      have R5 : Row w5 w2.heap.size 70 5 (some ⟨g5, 0, none⟩) (k + 1) c5 (JB (l.take (k + 1))) := by rw [JB_take (HL.out.symm ▸ hlt), HPP.out]; unfold Row; rw [ints_append]; exact hown
      have B5 : Below w2.heap.size w2 w5 := (hbl.drew.alloc hbl.size _).grown hgrow (by have := hbl.size; simp; omega) (fun z hz => by
        cases A0 with
        | none => simp [Value.ownBlock] at hz
        | some a0 =>
          simp only [Value.ownBlock, Option.some.injEq] at hz
          have := R.ge a0 rfl
          omega)
      clear hgrow hat5 hlt5 hown HKK HK5 h0 h1 h2 h3 h4
      by_cases hcs : c = 5
      · go_wp2
        exact ⟨⟨k + 1, _, r - 5, c - 5, _, c5, by omega, by omega, Lib.hid (by have := hr.out; omega), Lib.hid (by have := hcc.out; omega), Lib.hid (fun h => absurd h (by have := hr.out; omega)), by rw [hcs], rfl, R5, B5⟩, by show r - 5 < r; omega⟩
      · go_wp2
        exact ⟨⟨k + 1, _, r - 5, c - 5, _, c5, by omega, by omega, Lib.hid (by have := hr.out; omega), Lib.hid (by have := hcc.out; omega), Lib.hid (fun _ => congrArg (fun z => some (⟨g, z, none⟩ : Addr)) (by have := HO.out; omega)), rfl, rfl, R5, B5⟩, by show r - 5 < r; omega⟩
    · have hkm : k = m := by omega
      subst hkm
      have hr0 : r = 0 := by have := hr.out; omega
      subst hr0
      rw [List.take_of_length_le (by have := HL.out; omega)] at R
      go_wp2
      refine bodyPost_ret (v := .tuple #[.slice A0 k c0, .bool true]) (by simp [results, Try.results21, go_sem, *]) rfl ⟨A0, c0, rfl, ?_, ?_, ?_⟩
      · exact R.mono (Nat.le_trans HW.out.1 HW.out.2)
      · exact HK2.out.blk.below hbl
      · exact wrote_then HW2.out hbl
end Go.Proofs.Ytokklkmibjpjnaa
namespace Go.Proofs.Ytokklkmibjpjnaa
set_option linter.unusedSimpArgs false
set_option linter.unusedVariables false
attribute [local go_sem] n_lt2 n_lt3 n_lt4 n_le2 n_le3
open Go.RowKit
/-- A state of the call's own and a bool. -/
abbrev RetStB (w : World) (s : Stt) (b : Bool) (e : Ending) (w' : World) : Prop :=
  ∃ A c B d, e = .returned (.tuple #[.agg #[.int .i64 s.i, .int .i64 s.t, .slice A s.p.length c, .slice B s.q.length d, .int .i64 s.h, .int .i64 s.e, .int .i64 s.u], .bool b]) ∧ Row w' w.heap.size 82 2 A s.p.length c (PR s.p) ∧ Row w' w.heap.size 70 5 B s.q.length d (JB s.q) ∧ (∀ a b, A = some a → B = some b → a.block ≠ b.block) ∧ Below w.heap.size w w'
theorem retSt_nil {w w' : World} (h : Below w.heap.size w w') : RetStB w Stt.zero false (.returned (.tuple #[.agg #[.int .i64 0, .int .i64 0, .slice none 0 0, .slice none 0 0, .int .i64 0, .int .i64 0, .int .i64 0], .bool false])) w' :=
  ⟨none, 0, none, 0, rfl, Row.nil _ _ _ _, Row.nil _ _ _ _, (fun a b ha => by cases ha), h⟩
theorem rowp' {w w' : World} {lo E s : Nat} {A : Option Addr} {n c p : Nat} {zs : List Int} (R : Row w lo E s A n c zs) (hw : Wrote w w' (some ⟨p, 0, none⟩)) (hp : p < lo) : Row w' lo E s A n c zs :=
  R.wrote hw (fun a b ha hb => by obtain rfl := Option.some.inj hb; have := R.ge a ha; show a.block ≠ p; omega)
theorem seven_sets {w : World} {lo g E s : Nat} {A : Option Addr} {n c : Nat} {zs : List Int} (R : Row w lo E s A n c zs) (h : ∀ a, A = some a → a.block ≠ g) (y0 y1 y2 y3 y4 y5 y6 : Value) : Row (((((((w.setCell ⟨g, 0, none⟩ y0).setCell ⟨g, 1, none⟩ y1).setCell ⟨g, 2, none⟩ y2).setCell ⟨g, 3, none⟩ y3).setCell ⟨g, 4, none⟩ y4).setCell ⟨g, 5, none⟩ y5).setCell ⟨g, 6, none⟩ y6) lo E s A n c zs :=
  ((((((R.far (p := ⟨g, 0, none⟩) h y0).far (p := ⟨g, 1, none⟩) h y1).far (p := ⟨g, 2, none⟩) h y2).far (p := ⟨g, 3, none⟩) h y3).far (p := ⟨g, 4, none⟩) h y4).far (p := ⟨g, 5, none⟩) h y5).far (p := ⟨g, 6, none⟩) h y6
theorem seven_below {w0 w : World} {lo g : Nat} (B : Below lo w0 w) (h : lo ≤ g) (y0 y1 y2 y3 y4 y5 y6 : Value) : Below lo w0 (((((((w.setCell ⟨g, 0, none⟩ y0).setCell ⟨g, 1, none⟩ y1).setCell ⟨g, 2, none⟩ y2).setCell ⟨g, 3, none⟩ y3).setCell ⟨g, 4, none⟩ y4).setCell ⟨g, 5, none⟩ y5).setCell ⟨g, 6, none⟩ y6) :=
  ((((((B.setCell (p := ⟨g, 0, none⟩) h y0).setCell (p := ⟨g, 1, none⟩) h y1).setCell (p := ⟨g, 2, none⟩) h y2).setCell (p := ⟨g, 3, none⟩) h y3).setCell (p := ⟨g, 4, none⟩) h y4).setCell (p := ⟨g, 5, none⟩) h y5).setCell (p := ⟨g, 6, none⟩) h y6
theorem sl_part {w : World} {b off n : Nat} {zs : List Int} (h : Sl w 1 (some ⟨b, off, none⟩) n zs) (k m : Nat) (hkm : k + m ≤ n) : Sl w 1 (some ⟨b, off + k, none⟩) m ((zs.drop k).take m) := by
  have hl := h.len
  refine ⟨by simp; omega, fun hm => ?_⟩
  obtain ⟨b', off', hA, hb, hc⟩ := h.at_ (by omega)
  injection hA with hA
  injection hA with h1 h2
  subst h1 h2
  refine ⟨b, off + k, rfl, hb, fun j hj => ?_⟩
  have h3 := hc (k + j) (by omega)
  rw [show off + k + j = off + (k + j) by omega, h3]
  congr 2
  simp [List.getD, List.getElem?_take, List.getElem?_drop, show j < m by omega]
theorem row1_at {w : World} {lo E : Nat} {A : Option Addr} {n c : Nat} {zs : List Int} (R : Row w lo E 1 A n c zs) (hn : 0 < n) : ∃ b off, A = some ⟨b, off, none⟩ ∧ b < w.heap.size ∧ ∀ j, j < n → w.cell? ⟨b, off + j, none⟩ = some (.int .i64 (zs.getD j 0)) := by
  obtain ⟨b, off, h1, h2, h3⟩ := R.sl.at_ hn
  exact ⟨b, off, h1, h2, fun j hj => h3 j (by omega)⟩
end Go.Proofs.Ytokklkmibjpjnaa
namespace Go.Proofs.Ytokklkmibjpjnaa
set_option linter.unusedSimpArgs false
set_option linter.unusedVariables false
attribute [local go_sem] n_lt2 n_lt3 n_lt4 n_le2 n_le3
open Go.RowKit
attribute [local go_sem] Ext.cell Ext.frozen
set_option maxRecDepth 100000 in
set_option maxHeartbeats 8000000 in
theorem numbersState_any (A : Option Addr) (n cap : Nat) (zs : List Int) (w : World) (hS : Sl w 1 A n zs) (hn : n ≤ 1048576) (hc : n ≤ cap) (hcm : cap ≤ maxLen) (hlt : LtB A w.heap.size) :
    Calls Try.prog 6 #[.slice A n cap] w (RetStB w (numR zs).1 (numR zs).2) := by
  have HS := Lib.hid (fun (w' : World) (hB : Below w.heap.size w w') => hS.below hB)
  have hlen := hS.len
  have hlen' : zs.length = n := by omega
  have hnm : n ≤ maxLen := by unfold maxLen; omega
  by_cases h2 : n < 2
  · skip
    have hno : numR zs = (Stt.zero, false) := numR_shapeless (fun p q h => by
      have h1 := h.p10
      have h2 := h.q8
      have h3 := h.len
      have h4 := h.hp
      have h5 := h.hq
      omega)
    rw [hno]
    clear hno
    go_enter Try.func6, Try.ntmps6
    go_wp2_with fail
    refine calls_named ?_
    rintro w0 hw0
    have F_0 : Below w.heap.size w w0 := by rw [hw0]; (repeat' (first | (with_reducible exact Below.refl _ _) | (with_reducible assumption) | (with_reducible refine Below.alloc ?_ ?_ _) | (with_reducible refine Below.drew ?_) | (with_reducible refine Below.setCell ?_ ?_ _) | (with_reducible refine bstep (by assumption) ?_ ?_) | (with_reducible exact Nat.le_refl _) | omega | (simp [*]; done) | (simp [*]; omega)))
    have R_0 : Blk w0 w.heap.size 29 #[.int .i64 0, .int .i64 0, .slice none 0 0, .slice none 0 0, .int .i64 0, .int .i64 0, .int .i64 0] := by rw [hw0]; exact (Blk.new_at _ _ _ _ rfl).alloc _
    have K_0 : RCur w0 (w.heap.size + 1) 53 A n cap 0 := by rw [hw0]; exact Blk.new_at _ _ _ _ (by simp)
    clear hw0
    have z_0 : w.heap.size + 1 < w0.heap.size := K_0.blk.lt
    refine (take_no (w.heap.size + 1) n cap 0 A 2 w0 K_0 hnm (Nat.zero_le _) (by omega)).mono ?_
    rintro e w1 ⟨rfl, K_1, W1⟩
    have R_1 := R_0.wrote2 W1 (by omega)
    have F_1 := W1.below F_0 F_0.size (fun x hx => by obtain rfl := Option.some.inj hx; exact Nat.le_succ _)
    have z_1 := Nat.lt_of_lt_of_le z_0 W1.size
    clear R_0 F_0 K_0 W1
    have rRl := R_1.lt
    have rR0 := R_1.cell 0
    have rRz0 := R_1.frozen 0
    have rR1 := R_1.cell 1
    have rRz1 := R_1.frozen 1
    have rR2 := R_1.cell 2
    have rRz2 := R_1.frozen 2
    have rR3 := R_1.cell 3
    have rRz3 := R_1.frozen 3
    have rR4 := R_1.cell 4
    have rRz4 := R_1.frozen 4
    have rR5 := R_1.cell 5
    have rRz5 := R_1.frozen 5
    have rR6 := R_1.cell 6
    have rRz6 := R_1.frozen 6
    have hF := Lib.hid F_1
    go_wp2
    refine bodyPost_ret (v := .tuple #[.agg #[.int .i64 0, .int .i64 0, .slice none 0 0, .slice none 0 0, .int .i64 0, .int .i64 0, .int .i64 0], .bool false]) (by simp [results, Try.results6, go_sem, *]) rfl (retSt_nil (seven_below hF.out (Nat.le_refl _) _ _ _ _ _ _ _))
  obtain ⟨b, off, rfl, hb, _⟩ := hS.at_ (by omega)
  have hbp : b ≠ w.heap.size + 1 := by omega
  clear hlt hS
  by_cases hpy : 2 < n ∧ 0 ≤ zs.getD 2 0 ∧ zs.getD 2 0 ≤ 10 ∧ zs.getD 2 0 * 2 + 2 + 1 ≤ n
  rotate_left
  · skip
    have hno : numR zs = (Stt.zero, false) := numR_shapeless (fun p q h => by
      have h1 := h.p10
      have h2 := h.q8
      have h3 := h.len
      have h4 := h.hp
      have h5 := h.hq
      exact hpy ⟨by omega, by rw [h4]; omega, by rw [h4]; omega, by rw [h4]; omega⟩)
    rw [hno]
    clear hno
    go_enter Try.func6, Try.ntmps6
    go_wp2_with fail
    refine calls_named ?_
    rintro w0 hw0
    have F_0 : Below w.heap.size w w0 := by rw [hw0]; (repeat' (first | (with_reducible exact Below.refl _ _) | (with_reducible assumption) | (with_reducible refine Below.alloc ?_ ?_ _) | (with_reducible refine Below.drew ?_) | (with_reducible refine Below.setCell ?_ ?_ _) | (with_reducible refine bstep (by assumption) ?_ ?_) | (with_reducible exact Nat.le_refl _) | omega | (simp [*]; done) | (simp [*]; omega)))
    have R_0 : Blk w0 w.heap.size 29 #[.int .i64 0, .int .i64 0, .slice none 0 0, .slice none 0 0, .int .i64 0, .int .i64 0, .int .i64 0] := by rw [hw0]; exact (Blk.new_at _ _ _ _ rfl).alloc _
    have K_0 : RCur w0 (w.heap.size + 1) 53 (some ⟨b, off, none⟩) n cap 0 := by rw [hw0]; exact Blk.new_at _ _ _ _ (by simp)
    clear hw0
    have z_0 : w.heap.size + 1 < w0.heap.size := K_0.blk.lt
    refine (take_all (w.heap.size + 1) n cap 0 2 b off 2 zs w0 K_0 (HS.out w0 F_0) hn hc hcm (by omega) hbp rfl).mono ?_
    rintro e w1 ⟨A1, c1, rfl, N_U, K_1, W1⟩
    have R_1 := R_0.wrote2 W1 (by omega)
    have F_1 := W1.below F_0 F_0.size (fun x hx => by obtain rfl := Option.some.inj hx; exact Nat.le_succ _)
    have z_1 := Nat.lt_of_lt_of_le z_0 W1.size
    clear R_0 F_0 K_0 W1
    have U_1 := N_U
    clear N_U
    have y_U : w.heap.size + 1 < w0.heap.size := z_0
    go_wp2_with fail
    refine (takePairs_no (w.heap.size + 1) n cap 2 _ zs w1 K_1 (HS.out w1 F_1) hn hc hcm (by omega) (fun a ha => by injection ha with ha; subst ha; exact hbp) (fun h g => hpy ⟨h, g.1, g.2.1, by omega⟩)).mono ?_
    rintro e w2 ⟨A2, n2, c2, at2, rfl, _, K_2, W2⟩
    have R_2 := R_1.wrote2 W2 (by omega)
    have F_2 := W2.below F_1 F_1.size (fun x hx => by obtain rfl := Option.some.inj hx; exact Nat.le_succ _)
    have z_2 := Nat.lt_of_lt_of_le z_1 W2.size
    have U_2 := rowp' U_1 W2 y_U
    clear R_1 F_1 K_1 W2 U_1
    have rRl := R_2.lt
    have rR0 := R_2.cell 0
    have rRz0 := R_2.frozen 0
    have rR1 := R_2.cell 1
    have rRz1 := R_2.frozen 1
    have rR2 := R_2.cell 2
    have rRz2 := R_2.frozen 2
    have rR3 := R_2.cell 3
    have rRz3 := R_2.frozen 3
    have rR4 := R_2.cell 4
    have rRz4 := R_2.frozen 4
    have rR5 := R_2.cell 5
    have rRz5 := R_2.frozen 5
    have rR6 := R_2.cell 6
    have rRz6 := R_2.frozen 6
    have hF := Lib.hid F_2
    go_wp2
    refine bodyPost_ret (v := .tuple #[.agg #[.int .i64 0, .int .i64 0, .slice none 0 0, .slice none 0 0, .int .i64 0, .int .i64 0, .int .i64 0], .bool false]) (by simp [results, Try.results6, go_sem, *]) rfl (retSt_nil (seven_below hF.out (Nat.le_refl _) _ _ _ _ _ _ _))
  obtain ⟨hp2, hp0, hp10, hpf⟩ := hpy
  obtain ⟨p, hp⟩ : ∃ p : Nat, zs.getD 2 0 = (p : Int) := ⟨_, (Int.toNat_of_nonneg hp0).symm⟩
  rw [hp] at hp0 hp10 hpf
  have hp10' : p ≤ 10 := by omega
  have hfit : 2 + 1 + 2 * p ≤ n := by omega
  obtain ⟨pl, hpl, hps⟩ := PR_of p ((zs.drop (2 + 1)).take (2 * p)) (by simp; omega)
  obtain ⟨at1, hat1⟩ : ∃ x, x = 2 + 1 + 2 * p := ⟨_, rfl⟩
  have HPS := Lib.hid (And.intro hpl hps.symm)
  clear hps
  have HP := Lib.hid hp
  clear hp hp0 hp10 hpf
  by_cases hqy : at1 < n ∧ 0 ≤ zs.getD at1 0 ∧ zs.getD at1 0 ≤ 8 ∧ zs.getD at1 0 * 5 + at1 + 1 ≤ n
  rotate_left
  · skip
    have hno : numR zs = (Stt.zero, false) := numR_shapeless (fun p5 q5 h => by
      have h2 := h.q8
      have h3 := h.len
      have h4 := h.hp
      have h5 := h.hq
      have h6 := HP.out
      have h7 : p5 = p := by omega
      rw [h7] at h3 h5
      rw [show 3 + 2 * p = at1 by omega] at h5
      exact hqy ⟨by omega, by rw [h5]; omega, by rw [h5]; omega, by rw [h5]; omega⟩)
    rw [hno]
    clear hno
    go_enter Try.func6, Try.ntmps6
    go_wp2_with fail
    refine calls_named ?_
    rintro w0 hw0
    have F_0 : Below w.heap.size w w0 := by rw [hw0]; (repeat' (first | (with_reducible exact Below.refl _ _) | (with_reducible assumption) | (with_reducible refine Below.alloc ?_ ?_ _) | (with_reducible refine Below.drew ?_) | (with_reducible refine Below.setCell ?_ ?_ _) | (with_reducible refine bstep (by assumption) ?_ ?_) | (with_reducible exact Nat.le_refl _) | omega | (simp [*]; done) | (simp [*]; omega)))
    have R_0 : Blk w0 w.heap.size 29 #[.int .i64 0, .int .i64 0, .slice none 0 0, .slice none 0 0, .int .i64 0, .int .i64 0, .int .i64 0] := by rw [hw0]; exact (Blk.new_at _ _ _ _ rfl).alloc _
    have K_0 : RCur w0 (w.heap.size + 1) 53 (some ⟨b, off, none⟩) n cap 0 := by rw [hw0]; exact Blk.new_at _ _ _ _ (by simp)
    clear hw0
    have z_0 : w.heap.size + 1 < w0.heap.size := K_0.blk.lt
    refine (take_all (w.heap.size + 1) n cap 0 2 b off 2 zs w0 K_0 (HS.out w0 F_0) hn hc hcm (by omega) hbp rfl).mono ?_
    rintro e w1 ⟨A1, c1, rfl, N_U, K_1, W1⟩
    have R_1 := R_0.wrote2 W1 (by omega)
    have F_1 := W1.below F_0 F_0.size (fun x hx => by obtain rfl := Option.some.inj hx; exact Nat.le_succ _)
    have z_1 := Nat.lt_of_lt_of_le z_0 W1.size
    clear R_0 F_0 K_0 W1
    have U_1 := N_U
    clear N_U
    have y_U : w.heap.size + 1 < w0.heap.size := z_0
    go_wp2_with fail
    refine (takePairs_yes (w.heap.size + 1) n cap 2 p b off zs pl w1 K_1 (HS.out w1 F_1) hn hc hcm hbp hp10' HP.out hfit HPS.out.1 HPS.out.2).mono ?_
    rintro e w2 ⟨A2, c2, rfl, N_P, K_2, W2⟩
    have R_2 := R_1.wrote2 W2 (by omega)
    have F_2 := W2.below F_1 F_1.size (fun x hx => by obtain rfl := Option.some.inj hx; exact Nat.le_succ _)
    have z_2 := Nat.lt_of_lt_of_le z_1 W2.size
    have U_2 := rowp' U_1 W2 y_U
    clear R_1 F_1 K_1 W2 U_1
    have P_2 := N_P
    clear N_P
    have y_P : w.heap.size + 1 < w1.heap.size := z_1
    rw [← hat1] at K_2
    have LPQ := Lib.hid P_2.lt
    go_wp2_with fail
    refine (takeJobs_no (w.heap.size + 1) n cap at1 _ zs w2 K_2 (HS.out w2 F_2) hn hc hcm (by omega) (fun a ha => by injection ha with ha; subst ha; exact hbp) (fun h g => hqy ⟨h, g.1, g.2.1, by omega⟩)).mono ?_
    rintro e w3 ⟨A3, n3, c3, at3, rfl, _, K_3, W3⟩
    have R_3 := R_2.wrote2 W3 (by omega)
    have F_3 := W3.below F_2 F_2.size (fun x hx => by obtain rfl := Option.some.inj hx; exact Nat.le_succ _)
    have z_3 := Nat.lt_of_lt_of_le z_2 W3.size
    have U_3 := rowp' U_2 W3 y_U
    have P_3 := rowp' P_2 W3 y_P
    clear R_2 F_2 K_2 W3 U_2 P_2
    have rRl := R_3.lt
    have rR0 := R_3.cell 0
    have rRz0 := R_3.frozen 0
    have rR1 := R_3.cell 1
    have rRz1 := R_3.frozen 1
    have rR2 := R_3.cell 2
    have rRz2 := R_3.frozen 2
    have rR3 := R_3.cell 3
    have rRz3 := R_3.frozen 3
    have rR4 := R_3.cell 4
    have rRz4 := R_3.frozen 4
    have rR5 := R_3.cell 5
    have rRz5 := R_3.frozen 5
    have rR6 := R_3.cell 6
    have rRz6 := R_3.frozen 6
    have hF := Lib.hid F_3
    go_wp2
    refine bodyPost_ret (v := .tuple #[.agg #[.int .i64 0, .int .i64 0, .slice none 0 0, .slice none 0 0, .int .i64 0, .int .i64 0, .int .i64 0], .bool false]) (by simp [results, Try.results6, go_sem, *]) rfl (retSt_nil (seven_below hF.out (Nat.le_refl _) _ _ _ _ _ _ _))
  obtain ⟨hq2, hq0, hq8, hqf⟩ := hqy
  obtain ⟨q, hq⟩ : ∃ q : Nat, zs.getD at1 0 = (q : Int) := ⟨_, (Int.toNat_of_nonneg hq0).symm⟩
  rw [hq] at hq0 hq8 hqf
  have hq8' : q ≤ 8 := by omega
  have hfit2 : at1 + 1 + 5 * q ≤ n := by omega
  obtain ⟨ql, hql, hqs⟩ := JB_of q ((zs.drop (at1 + 1)).take (5 * q)) (by simp; omega)
  obtain ⟨at2, hat2⟩ : ∃ x, x = at1 + 1 + 5 * q := ⟨_, rfl⟩
  have HQS := Lib.hid (And.intro hql hqs.symm)
  clear hqs
  have HQ := Lib.hid hq
  clear hq hq0 hq8 hqf
  by_cases h3 : n < at2 + 3
  · skip
    have hno : numR zs = (Stt.zero, false) := numR_shapeless (fun p5 q5 h => by
      have h3 := h.len
      have h4 := h.hp
      have h5 := h.hq
      have h6 := HP.out
      have h7 : p5 = p := by omega
      subst h7
      have h8 := HQ.out
      rw [show 3 + 2 * p5 = at1 by omega] at h5
      omega)
    rw [hno]
    clear hno
    go_enter Try.func6, Try.ntmps6
    go_wp2_with fail
    refine calls_named ?_
    rintro w0 hw0
    have F_0 : Below w.heap.size w w0 := by rw [hw0]; (repeat' (first | (with_reducible exact Below.refl _ _) | (with_reducible assumption) | (with_reducible refine Below.alloc ?_ ?_ _) | (with_reducible refine Below.drew ?_) | (with_reducible refine Below.setCell ?_ ?_ _) | (with_reducible refine bstep (by assumption) ?_ ?_) | (with_reducible exact Nat.le_refl _) | omega | (simp [*]; done) | (simp [*]; omega)))
    have R_0 : Blk w0 w.heap.size 29 #[.int .i64 0, .int .i64 0, .slice none 0 0, .slice none 0 0, .int .i64 0, .int .i64 0, .int .i64 0] := by rw [hw0]; exact (Blk.new_at _ _ _ _ rfl).alloc _
    have K_0 : RCur w0 (w.heap.size + 1) 53 (some ⟨b, off, none⟩) n cap 0 := by rw [hw0]; exact Blk.new_at _ _ _ _ (by simp)
    clear hw0
    have z_0 : w.heap.size + 1 < w0.heap.size := K_0.blk.lt
    refine (take_all (w.heap.size + 1) n cap 0 2 b off 2 zs w0 K_0 (HS.out w0 F_0) hn hc hcm (by omega) hbp rfl).mono ?_
    rintro e w1 ⟨A1, c1, rfl, N_U, K_1, W1⟩
    have R_1 := R_0.wrote2 W1 (by omega)
    have F_1 := W1.below F_0 F_0.size (fun x hx => by obtain rfl := Option.some.inj hx; exact Nat.le_succ _)
    have z_1 := Nat.lt_of_lt_of_le z_0 W1.size
    clear R_0 F_0 K_0 W1
    have U_1 := N_U
    clear N_U
    have y_U : w.heap.size + 1 < w0.heap.size := z_0
    go_wp2_with fail
    refine (takePairs_yes (w.heap.size + 1) n cap 2 p b off zs pl w1 K_1 (HS.out w1 F_1) hn hc hcm hbp hp10' HP.out hfit HPS.out.1 HPS.out.2).mono ?_
    rintro e w2 ⟨A2, c2, rfl, N_P, K_2, W2⟩
    have R_2 := R_1.wrote2 W2 (by omega)
    have F_2 := W2.below F_1 F_1.size (fun x hx => by obtain rfl := Option.some.inj hx; exact Nat.le_succ _)
    have z_2 := Nat.lt_of_lt_of_le z_1 W2.size
    have U_2 := rowp' U_1 W2 y_U
    clear R_1 F_1 K_1 W2 U_1
    have P_2 := N_P
    clear N_P
    have y_P : w.heap.size + 1 < w1.heap.size := z_1
    rw [← hat1] at K_2
    have LPQ := Lib.hid P_2.lt
    go_wp2_with fail
    refine (takeJobs_yes (w.heap.size + 1) n cap at1 q b off zs ql w2 K_2 (HS.out w2 F_2) hn hc hcm hbp hq8' HQ.out hfit2 HQS.out.1 HQS.out.2).mono ?_
    rintro e w3 ⟨A3, c3, rfl, N_Q, K_3, W3⟩
    have R_3 := R_2.wrote2 W3 (by omega)
    have F_3 := W3.below F_2 F_2.size (fun x hx => by obtain rfl := Option.some.inj hx; exact Nat.le_succ _)
    have z_3 := Nat.lt_of_lt_of_le z_2 W3.size
    have U_3 := rowp' U_2 W3 y_U
    have P_3 := rowp' P_2 W3 y_P
    clear R_2 F_2 K_2 W3 U_2 P_2
    have Q_3 := N_Q
    clear N_Q
    have y_Q : w.heap.size + 1 < w2.heap.size := z_2
    rw [← hat2] at K_3
    go_wp2_with fail
    refine (take_no (w.heap.size + 1) n cap at2 _ 3 w3 K_3 hnm (by omega) (by omega)).mono ?_
    rintro e w4 ⟨rfl, K_4, W4⟩
    have R_4 := R_3.wrote2 W4 (by omega)
    have F_4 := W4.below F_3 F_3.size (fun x hx => by obtain rfl := Option.some.inj hx; exact Nat.le_succ _)
    have z_4 := Nat.lt_of_lt_of_le z_3 W4.size
    have U_4 := rowp' U_3 W4 y_U
    have P_4 := rowp' P_3 W4 y_P
    have Q_4 := rowp' Q_3 W4 y_Q
    clear R_3 F_3 K_3 W4 U_3 P_3 Q_3
    have rRl := R_4.lt
    have rR0 := R_4.cell 0
    have rRz0 := R_4.frozen 0
    have rR1 := R_4.cell 1
    have rRz1 := R_4.frozen 1
    have rR2 := R_4.cell 2
    have rRz2 := R_4.frozen 2
    have rR3 := R_4.cell 3
    have rRz3 := R_4.frozen 3
    have rR4 := R_4.cell 4
    have rRz4 := R_4.frozen 4
    have rR5 := R_4.cell 5
    have rRz5 := R_4.frozen 5
    have rR6 := R_4.cell 6
    have rRz6 := R_4.frozen 6
    have hF := Lib.hid F_4
    go_wp2
    refine bodyPost_ret (v := .tuple #[.agg #[.int .i64 0, .int .i64 0, .slice none 0 0, .slice none 0 0, .int .i64 0, .int .i64 0, .int .i64 0], .bool false]) (by simp [results, Try.results6, go_sem, *]) rfl (retSt_nil (seven_below hF.out (Nat.le_refl _) _ _ _ _ _ _ _))
  by_cases he : at2 + 3 = n
  rotate_left
  · skip
    have hno : numR zs = (Stt.zero, false) := numR_shapeless (fun p5 q5 h => by
      have h3 := h.len
      have h4 := h.hp
      have h5 := h.hq
      have h6 := HP.out
      have h7 : p5 = p := by omega
      subst h7
      have h8 := HQ.out
      rw [show 3 + 2 * p5 = at1 by omega] at h5
      omega)
    rw [hno]
    clear hno
    go_enter Try.func6, Try.ntmps6
    go_wp2_with fail
    refine calls_named ?_
    rintro w0 hw0
    have F_0 : Below w.heap.size w w0 := by rw [hw0]; (repeat' (first | (with_reducible exact Below.refl _ _) | (with_reducible assumption) | (with_reducible refine Below.alloc ?_ ?_ _) | (with_reducible refine Below.drew ?_) | (with_reducible refine Below.setCell ?_ ?_ _) | (with_reducible refine bstep (by assumption) ?_ ?_) | (with_reducible exact Nat.le_refl _) | omega | (simp [*]; done) | (simp [*]; omega)))
    have R_0 : Blk w0 w.heap.size 29 #[.int .i64 0, .int .i64 0, .slice none 0 0, .slice none 0 0, .int .i64 0, .int .i64 0, .int .i64 0] := by rw [hw0]; exact (Blk.new_at _ _ _ _ rfl).alloc _
    have K_0 : RCur w0 (w.heap.size + 1) 53 (some ⟨b, off, none⟩) n cap 0 := by rw [hw0]; exact Blk.new_at _ _ _ _ (by simp)
    clear hw0
    have z_0 : w.heap.size + 1 < w0.heap.size := K_0.blk.lt
    refine (take_all (w.heap.size + 1) n cap 0 2 b off 2 zs w0 K_0 (HS.out w0 F_0) hn hc hcm (by omega) hbp rfl).mono ?_
    rintro e w1 ⟨A1, c1, rfl, N_U, K_1, W1⟩
    have R_1 := R_0.wrote2 W1 (by omega)
    have F_1 := W1.below F_0 F_0.size (fun x hx => by obtain rfl := Option.some.inj hx; exact Nat.le_succ _)
    have z_1 := Nat.lt_of_lt_of_le z_0 W1.size
    clear R_0 F_0 K_0 W1
    have U_1 := N_U
    clear N_U
    have y_U : w.heap.size + 1 < w0.heap.size := z_0
    go_wp2_with fail
    refine (takePairs_yes (w.heap.size + 1) n cap 2 p b off zs pl w1 K_1 (HS.out w1 F_1) hn hc hcm hbp hp10' HP.out hfit HPS.out.1 HPS.out.2).mono ?_
    rintro e w2 ⟨A2, c2, rfl, N_P, K_2, W2⟩
    have R_2 := R_1.wrote2 W2 (by omega)
    have F_2 := W2.below F_1 F_1.size (fun x hx => by obtain rfl := Option.some.inj hx; exact Nat.le_succ _)
    have z_2 := Nat.lt_of_lt_of_le z_1 W2.size
    have U_2 := rowp' U_1 W2 y_U
    clear R_1 F_1 K_1 W2 U_1
    have P_2 := N_P
    clear N_P
    have y_P : w.heap.size + 1 < w1.heap.size := z_1
    rw [← hat1] at K_2
    have LPQ := Lib.hid P_2.lt
    go_wp2_with fail
    refine (takeJobs_yes (w.heap.size + 1) n cap at1 q b off zs ql w2 K_2 (HS.out w2 F_2) hn hc hcm hbp hq8' HQ.out hfit2 HQS.out.1 HQS.out.2).mono ?_
    rintro e w3 ⟨A3, c3, rfl, N_Q, K_3, W3⟩
    have R_3 := R_2.wrote2 W3 (by omega)
    have F_3 := W3.below F_2 F_2.size (fun x hx => by obtain rfl := Option.some.inj hx; exact Nat.le_succ _)
    have z_3 := Nat.lt_of_lt_of_le z_2 W3.size
    have U_3 := rowp' U_2 W3 y_U
    have P_3 := rowp' P_2 W3 y_P
    clear R_2 F_2 K_2 W3 U_2 P_2
    have Q_3 := N_Q
    clear N_Q
    have y_Q : w.heap.size + 1 < w2.heap.size := z_2
    rw [← hat2] at K_3
    go_wp2_with fail
    refine (take_all (w.heap.size + 1) n cap at2 3 b off 3 zs w3 K_3 (HS.out w3 F_3) hn hc hcm (by omega) hbp rfl).mono ?_
    rintro e w4 ⟨A4, c4, rfl, N_V, K_4, W4⟩
    have R_4 := R_3.wrote2 W4 (by omega)
    have F_4 := W4.below F_3 F_3.size (fun x hx => by obtain rfl := Option.some.inj hx; exact Nat.le_succ _)
    have z_4 := Nat.lt_of_lt_of_le z_3 W4.size
    have U_4 := rowp' U_3 W4 y_U
    have P_4 := rowp' P_3 W4 y_P
    have Q_4 := rowp' Q_3 W4 y_Q
    clear R_3 F_3 K_3 W4 U_3 P_3 Q_3
    have V_4 := N_V
    clear N_V
    have y_V : w.heap.size + 1 < w3.heap.size := z_3
    have c5 := done_any (w.heap.size + 1) n cap (at2 + 3) _ w4 K_4 hnm (by omega)
    rw [decide_eq_false he] at c5
    go_wp2_with fail
    refine (c5).mono ?_
    rintro e w5 ⟨rfl, K_5, b5⟩
    have R_5 := R_4.below b5
    have F_5 := bthen F_4 b5
    have z_5 := Nat.lt_of_lt_of_le z_4 b5.size
    have U_5 := U_4.below b5
    have P_5 := P_4.below b5
    have Q_5 := Q_4.below b5
    have V_5 := V_4.below b5
    clear R_4 F_4 U_4 P_4 Q_4 V_4
    have rRl := R_5.lt
    have rR0 := R_5.cell 0
    have rRz0 := R_5.frozen 0
    have rR1 := R_5.cell 1
    have rRz1 := R_5.frozen 1
    have rR2 := R_5.cell 2
    have rRz2 := R_5.frozen 2
    have rR3 := R_5.cell 3
    have rRz3 := R_5.frozen 3
    have rR4 := R_5.cell 4
    have rRz4 := R_5.frozen 4
    have rR5 := R_5.cell 5
    have rRz5 := R_5.frozen 5
    have rR6 := R_5.cell 6
    have rRz6 := R_5.frozen 6
    have hF := Lib.hid F_5
    go_wp2
    refine bodyPost_ret (v := .tuple #[.agg #[.int .i64 0, .int .i64 0, .slice none 0 0, .slice none 0 0, .int .i64 0, .int .i64 0, .int .i64 0], .bool false]) (by simp [results, Try.results6, go_sem, *]) rfl (retSt_nil (seven_below hF.out (Nat.le_refl _) _ _ _ _ _ _ _))
  have hsh : Shape zs p q := ⟨hp10', hq8', by omega, HP.out, by rw [show 3 + 2 * p = at1 by omega]; exact HQ.out⟩
  obtain ⟨s, hs1, hs2, hs3, hs4, hs5, hs6, hs7, hs8⟩ := shape_row hsh
  have hnr := numR_at hs1
  have hpe : s.p = pl := PR_inj (by rw [← hs6, HPS.out.2.symm.trans rfl])
  have hqe : s.q = ql := JB_inj (by rw [← hs7, show 4 + 2 * p = at1 + 1 by omega]; exact HQS.out.2)
  obtain ⟨si, st, sp, sq, sh, se, su⟩ := s
  simp only at hpe hqe hs4 hs5 hs8
  replace hpe := hpe.symm
  replace hqe := hqe.symm
  subst hpe hqe
  have hd0 : (zs.drop 0).take 2 = [si, st] := by
    have h0 : 0 < zs.length := by omega
    have h1 : 0 + 1 < zs.length := by omega
    rw [drop_cons h0, drop_cons h1, hs4, hs5]
    rfl
  have hd3 : (zs.drop at2).take 3 = [sh, se, su] := by rw [show at2 = 4 + 2 * p + 5 * q by omega, hs8]; rfl
  obtain ⟨ok, hok⟩ : ∃ x, stOk ⟨si, st, pl, ql, sh, se, su⟩ = x := ⟨_, rfl⟩
  rw [hok] at hnr
  have hst : stateB si st sh se su pl ql = ok := hok
  have HST := Lib.hid hst
  have HD := Lib.hid (And.intro hd0 hd3)
  generalize numR zs = r at hnr ⊢
  have HNR := Lib.hid hnr
  clear hnr hs1 hs2 hs3 hs4 hs5 hs6 hs7 hs8 hsh hok hst hd0 hd3
  go_enter Try.func6, Try.ntmps6
  go_wp2_with fail
  refine calls_named ?_
  rintro w0 hw0
  have F_0 : Below w.heap.size w w0 := by rw [hw0]; (repeat' (first | (with_reducible exact Below.refl _ _) | (with_reducible assumption) | (with_reducible refine Below.alloc ?_ ?_ _) | (with_reducible refine Below.drew ?_) | (with_reducible refine Below.setCell ?_ ?_ _) | (with_reducible refine bstep (by assumption) ?_ ?_) | (with_reducible exact Nat.le_refl _) | omega | (simp [*]; done) | (simp [*]; omega)))
  have R_0 : Blk w0 w.heap.size 29 #[.int .i64 0, .int .i64 0, .slice none 0 0, .slice none 0 0, .int .i64 0, .int .i64 0, .int .i64 0] := by rw [hw0]; exact (Blk.new_at _ _ _ _ rfl).alloc _
  have K_0 : RCur w0 (w.heap.size + 1) 53 (some ⟨b, off, none⟩) n cap 0 := by rw [hw0]; exact Blk.new_at _ _ _ _ (by simp)
  clear hw0
  have z_0 : w.heap.size + 1 < w0.heap.size := K_0.blk.lt
  refine (take_all (w.heap.size + 1) n cap 0 2 b off 2 zs w0 K_0 (HS.out w0 F_0) hn hc hcm (by omega) hbp rfl).mono ?_
  rintro e w1 ⟨A1, c1, rfl, N_U, K_1, W1⟩
  have R_1 := R_0.wrote2 W1 (by omega)
  have F_1 := W1.below F_0 F_0.size (fun x hx => by obtain rfl := Option.some.inj hx; exact Nat.le_succ _)
  have z_1 := Nat.lt_of_lt_of_le z_0 W1.size
  clear R_0 F_0 K_0 W1
  have U_1 := N_U
  clear N_U
  have y_U : w.heap.size + 1 < w0.heap.size := z_0
  go_wp2_with fail
  refine (takePairs_yes (w.heap.size + 1) n cap 2 p b off zs pl w1 K_1 (HS.out w1 F_1) hn hc hcm hbp hp10' HP.out hfit HPS.out.1 HPS.out.2).mono ?_
  rintro e w2 ⟨A2, c2, rfl, N_P, K_2, W2⟩
  have R_2 := R_1.wrote2 W2 (by omega)
  have F_2 := W2.below F_1 F_1.size (fun x hx => by obtain rfl := Option.some.inj hx; exact Nat.le_succ _)
  have z_2 := Nat.lt_of_lt_of_le z_1 W2.size
  have U_2 := rowp' U_1 W2 y_U
  clear R_1 F_1 K_1 W2 U_1
  have P_2 := N_P
  clear N_P
  have y_P : w.heap.size + 1 < w1.heap.size := z_1
  rw [← hat1] at K_2
  have LPQ := Lib.hid P_2.lt
  go_wp2_with fail
  refine (takeJobs_yes (w.heap.size + 1) n cap at1 q b off zs ql w2 K_2 (HS.out w2 F_2) hn hc hcm hbp hq8' HQ.out hfit2 HQS.out.1 HQS.out.2).mono ?_
  rintro e w3 ⟨A3, c3, rfl, N_Q, K_3, W3⟩
  have R_3 := R_2.wrote2 W3 (by omega)
  have F_3 := W3.below F_2 F_2.size (fun x hx => by obtain rfl := Option.some.inj hx; exact Nat.le_succ _)
  have z_3 := Nat.lt_of_lt_of_le z_2 W3.size
  have U_3 := rowp' U_2 W3 y_U
  have P_3 := rowp' P_2 W3 y_P
  clear R_2 F_2 K_2 W3 U_2 P_2
  have Q_3 := N_Q
  clear N_Q
  have y_Q : w.heap.size + 1 < w2.heap.size := z_2
  rw [← hat2] at K_3
  go_wp2_with fail
  refine (take_all (w.heap.size + 1) n cap at2 3 b off 3 zs w3 K_3 (HS.out w3 F_3) hn hc hcm (by omega) hbp rfl).mono ?_
  rintro e w4 ⟨A4, c4, rfl, N_V, K_4, W4⟩
  have R_4 := R_3.wrote2 W4 (by omega)
  have F_4 := W4.below F_3 F_3.size (fun x hx => by obtain rfl := Option.some.inj hx; exact Nat.le_succ _)
  have z_4 := Nat.lt_of_lt_of_le z_3 W4.size
  have U_4 := rowp' U_3 W4 y_U
  have P_4 := rowp' P_3 W4 y_P
  have Q_4 := rowp' Q_3 W4 y_Q
  clear R_3 F_3 K_3 W4 U_3 P_3 Q_3
  have V_4 := N_V
  clear N_V
  have y_V : w.heap.size + 1 < w3.heap.size := z_3
  have c5 := done_any (w.heap.size + 1) n cap (at2 + 3) _ w4 K_4 hnm (by omega)
  rw [decide_eq_true he] at c5
  go_wp2_with fail
  refine (c5).mono ?_
  rintro e w5 ⟨rfl, K_5, b5⟩
  have R_5 := R_4.below b5
  have F_5 := bthen F_4 b5
  have z_5 := Nat.lt_of_lt_of_le z_4 b5.size
  have U_5 := U_4.below b5
  have P_5 := P_4.below b5
  have Q_5 := Q_4.below b5
  have V_5 := V_4.below b5
  clear R_4 F_4 U_4 P_4 Q_4 V_4
  rw [HD.out.1] at U_5
  rw [HD.out.2] at V_5
  obtain ⟨bU, oU, hAU, lU, cU⟩ := row1_at U_5 (by omega)
  obtain ⟨bV, oV, hAV, lV, cV⟩ := row1_at V_5 (by omega)
  subst hAU hAV
  have u0 : w5.cell? ⟨bU, oU, none⟩ = some (.int .i64 si) := cU 0 (by omega)
  have u1 : w5.cell? ⟨bU, oU + 1, none⟩ = some (.int .i64 st) := cU 1 (by omega)
  have v0 : w5.cell? ⟨bV, oV, none⟩ = some (.int .i64 sh) := cV 0 (by omega)
  have v1 : w5.cell? ⟨bV, oV + 1, none⟩ = some (.int .i64 se) := cV 1 (by omega)
  have v2 : w5.cell? ⟨bV, oV + 2, none⟩ = some (.int .i64 su) := cV 2 (by omega)
  clear cU cV
  go_wp2_with fail
  go_region
  clear u0 u1 v0 v1 v2 lU lV
  clear U_5 V_5
  go_wp2_with fail
  refine calls_named ?_
  rintro w6 hw6
  have R_6 : Blk w6 w.heap.size 29 #[.int .i64 0, .int .i64 0, .slice none 0 0, .slice none 0 0, .int .i64 0, .int .i64 0, .int .i64 0] := by rw [hw6]; exact Blk.drew (R_5.alloc _)
  have S_6 : Blk w6 w5.heap.size 29 #[.int .i64 si, .int .i64 st, .slice A2 p c2, .slice A3 q c3, .int .i64 sh, .int .i64 se, .int .i64 su] := by rw [hw6]; exact Blk.drew (Blk.new_at _ _ _ _ rfl)
  have F_6 : Below w.heap.size w w6 := by rw [hw6]; exact (F_5.alloc F_5.size _).drew
  have P_6 : Row w6 w1.heap.size 82 2 A2 p c2 (PR pl) := by rw [hw6]; exact (P_5.alloc _).drew
  have Q_6 : Row w6 w2.heap.size 70 5 A3 q c3 (JB ql) := by rw [hw6]; exact (Q_5.alloc _).drew
  have lP := P_5.lt
  have hz5 : w.heap.size < w5.heap.size := R_5.lt
  clear hw6 R_5 F_5 P_5 Q_5
  have c7 := stateOk_any A2 p c2 A3 q c3 si st sh se su pl ql w6 P_6.sl Q_6.sl hpl hql (by unfold maxLen; omega) (by unfold maxLen; omega)
  rw [HST.out] at c7
  refine c7.mono ?_
  rintro e w7 ⟨rfl, b7⟩
  have R_7 := R_6.below b7
  have S_7 := S_6.below b7
  have F_7 := bthen F_6 b7
  have P_7 := P_6.below b7
  have Q_7 := Q_6.below b7
  clear c7 R_6 S_6 F_6 P_6 Q_6
  cases ok with
  | false =>
    have e0 := HNR.out
    simp only [Bool.false_eq_true, if_false] at e0
    subst e0
    have rRl := R_7.lt
    have rR0 := R_7.cell 0
    have rRz0 := R_7.frozen 0
    have rR1 := R_7.cell 1
    have rRz1 := R_7.frozen 1
    have rR2 := R_7.cell 2
    have rRz2 := R_7.frozen 2
    have rR3 := R_7.cell 3
    have rRz3 := R_7.frozen 3
    have rR4 := R_7.cell 4
    have rRz4 := R_7.frozen 4
    have rR5 := R_7.cell 5
    have rRz5 := R_7.frozen 5
    have rR6 := R_7.cell 6
    have rRz6 := R_7.frozen 6
    have hF := Lib.hid F_7
    go_wp2
    refine bodyPost_ret (v := .tuple #[.agg #[.int .i64 0, .int .i64 0, .slice none 0 0, .slice none 0 0, .int .i64 0, .int .i64 0, .int .i64 0], .bool false]) (by simp [results, Try.results6, go_sem, *]) rfl (retSt_nil (seven_below hF.out (Nat.le_refl _) _ _ _ _ _ _ _))
  | true =>
    have e0 := HNR.out
    simp only [if_true] at e0
    subst e0
    have rSl := S_7.lt
    have rS0 := S_7.cell 0
    have rS1 := S_7.cell 1
    have rS2 := S_7.cell 2
    have rS3 := S_7.cell 3
    have rS4 := S_7.cell 4
    have rS5 := S_7.cell 5
    have rS6 := S_7.cell 6
    have rRl := R_7.lt
    have rR0 := R_7.cell 0
    have rRz0 := R_7.frozen 0
    have rR1 := R_7.cell 1
    have rRz1 := R_7.frozen 1
    have rR2 := R_7.cell 2
    have rRz2 := R_7.frozen 2
    have rR3 := R_7.cell 3
    have rRz3 := R_7.frozen 3
    have rR4 := R_7.cell 4
    have rRz4 := R_7.frozen 4
    have rR5 := R_7.cell 5
    have rRz5 := R_7.frozen 5
    have rR6 := R_7.cell 6
    have rRz6 := R_7.frozen 6
    have hneP : ∀ a, A2 = some a → a.block ≠ w.heap.size := fun a ha => by have := P_7.ge a ha; omega
    have hneQ : ∀ a, A3 = some a → a.block ≠ w.heap.size := fun a ha => by have := Q_7.ge a ha; omega
    have hap : ∀ a b, A2 = some a → A3 = some b → a.block ≠ b.block := fun a b ha hb => by have h1 := LPQ.out a ha; have h2 := Q_7.ge b hb; omega
    have HX := Lib.hid (And.intro (And.intro hneP hneQ) (And.intro hap F_7))
    have HPX := Lib.hid (P_7.mono (show w.heap.size ≤ w1.heap.size by omega))
    have HQX := Lib.hid (Q_7.mono (show w.heap.size ≤ w2.heap.size by omega))
    clear hneP hneQ hap
    go_wp2
    refine bodyPost_ret (v := .tuple #[.agg #[.int .i64 si, .int .i64 st, .slice A2 p c2, .slice A3 q c3, .int .i64 sh, .int .i64 se, .int .i64 su], .bool true]) (by simp [results, Try.results6, go_sem, *]) rfl ?_
    subst hpl hql
    exact ⟨A2, c2, A3, c3, rfl, seven_sets HPX.out HX.out.1.1 _ _ _ _ _ _ _, seven_sets HQX.out HX.out.1.2 _ _ _ _ _ _ _, HX.out.2.1, seven_below HX.out.2.2 (Nat.le_refl _) _ _ _ _ _ _ _⟩
end Go.Proofs.Ytokklkmibjpjnaa
namespace Go.Proofs.Ytokklkmibjpjnaa
set_option linter.unusedSimpArgs false
set_option linter.unusedVariables false
attribute [local go_sem] n_lt2 n_lt3 n_lt4 n_le2 n_le3
open Go.RowKit
attribute [local go_sem] Ext.cell Ext.frozen
end Go.Proofs.Ytokklkmibjpjnaa
namespace Go.Proofs.Ytokklkmibjpjnaa
set_option linter.unusedSimpArgs false
set_option linter.unusedVariables false
attribute [local go_sem] n_lt2 n_lt3 n_lt4 n_le2 n_le3
open Go.RowKit
attribute [local go_sem] Ext.cell Ext.frozen

open Classical in
/-- The list that a row holds. -/
noncomputable def rowPairsR (zs : List Int) : List Pr × Bool := if h : ∃ l : List Pr, zs = (l.length : Int) :: PR l ∧ pairsB l = true then (Classical.choose h, true) else ([], false)
theorem rowPairsR_yes {zs : List Int} {l : List Pr} (h : zs = (l.length : Int) :: PR l) (hb : pairsB l = true) : rowPairsR zs = (l, true) := by
  have hex : ∃ l : List Pr, zs = (l.length : Int) :: PR l ∧ pairsB l = true := ⟨l, h, hb⟩
  unfold rowPairsR
  rw [dif_pos hex]
  have h2 := h.symm.trans (Classical.choose_spec hex).1
  injection h2 with _ h3
  exact congrArg (fun x => (x, true)) (PR_inj h3).symm
theorem rowPairsR_no {zs : List Int} (h : ∀ l : List Pr, zs = (l.length : Int) :: PR l → pairsB l = false) : rowPairsR zs = ([], false) := by
  unfold rowPairsR
  rw [dif_neg]
  rintro ⟨l, h1, h2⟩
  rw [h l h1] at h2
  cases h2
theorem rowPairsR_len (zs : List Int) : (rowPairsR zs).1.length ≤ 10 := by
  unfold rowPairsR
  split
  · rename_i h
    exact pairsB_len (Classical.choose_spec h).2
  · simp
end Go.Proofs.Ytokklkmibjpjnaa
namespace Go.Proofs.Ytokklkmibjpjnaa
set_option linter.unusedSimpArgs false
set_option linter.unusedVariables false
attribute [local go_sem] n_lt2 n_lt3 n_lt4 n_le2 n_le3
open Go.RowKit
attribute [local go_sem] Ext.cell Ext.frozen

open Classical in
/-- The list that a row holds. -/
noncomputable def rowOrdersR (zs : List Int) : List Jb × Bool := if h : ∃ l : List Jb, zs = (l.length : Int) :: JB l ∧ jobsB l = true then (Classical.choose h, true) else ([], false)
theorem rowOrdersR_yes {zs : List Int} {l : List Jb} (h : zs = (l.length : Int) :: JB l) (hb : jobsB l = true) : rowOrdersR zs = (l, true) := by
  have hex : ∃ l : List Jb, zs = (l.length : Int) :: JB l ∧ jobsB l = true := ⟨l, h, hb⟩
  unfold rowOrdersR
  rw [dif_pos hex]
  have h2 := h.symm.trans (Classical.choose_spec hex).1
  injection h2 with _ h3
  exact congrArg (fun x => (x, true)) (JB_inj h3).symm
theorem rowOrdersR_no {zs : List Int} (h : ∀ l : List Jb, zs = (l.length : Int) :: JB l → jobsB l = false) : rowOrdersR zs = ([], false) := by
  unfold rowOrdersR
  rw [dif_neg]
  rintro ⟨l, h1, h2⟩
  rw [h l h1] at h2
  cases h2
theorem rowOrdersR_len (zs : List Int) : (rowOrdersR zs).1.length ≤ 10 := by
  unfold rowOrdersR
  split
  · rename_i h
    exact jobsB_len (Classical.choose_spec h).2
  · simp
end Go.Proofs.Ytokklkmibjpjnaa
namespace Go.Proofs.Ytokklkmibjpjnaa
set_option linter.unusedSimpArgs false
set_option linter.unusedVariables false
attribute [local go_sem] n_lt2 n_lt3 n_lt4 n_le2 n_le3
open Go.RowKit
attribute [local go_sem] Ext.cell Ext.frozen

end Go.Proofs.Ytokklkmibjpjnaa
namespace Go.Proofs.Ytokklkmibjpjnaa
set_option linter.unusedSimpArgs false
set_option linter.unusedVariables false
attribute [local go_sem] n_lt2 n_lt3 n_lt4 n_le2 n_le3
open Go.RowKit
attribute [local go_sem] Ext.cell Ext.frozen
end Go.Proofs.Ytokklkmibjpjnaa
namespace Go.Proofs.Ytokklkmibjpjnaa
set_option linter.unusedSimpArgs false
set_option linter.unusedVariables false
attribute [local go_sem] n_lt2 n_lt3 n_lt4 n_le2 n_le3
open Go.RowKit
attribute [local go_sem] Ext.cell Ext.frozen
end Go.Proofs.Ytokklkmibjpjnaa
namespace Go.Proofs.Ytokklkmibjpjnaa
set_option linter.unusedSimpArgs false
set_option linter.unusedVariables false
attribute [local go_sem] n_lt2 n_lt3 n_lt4 n_le2 n_le3
open Go.RowKit
end Go.Proofs.Ytokklkmibjpjnaa
namespace Go.Proofs.Ytokklkmibjpjnaa
set_option linter.unusedSimpArgs false
set_option linter.unusedVariables false
attribute [local go_sem] n_lt2 n_lt3 n_lt4 n_le2 n_le3
open Go.RowKit
/-- The parts of a state and a bool. -/
structure SParts (r : Stt × Bool) (ri rt rh re ru : Int) (rn rm : Nat) (rz ry : List Int) (rb : Bool) : Prop where
  i : r.1.i = ri
  t : r.1.t = rt
  h : r.1.h = rh
  e : r.1.e = re
  u : r.1.u = ru
  n : r.1.p.length = rn
  m : r.1.q.length = rm
  z : PR r.1.p = rz
  y : JB r.1.q = ry
  b : r.2 = rb
abbrev RetSB (w : World) (ri rt rh re ru : Int) (rn rm : Nat) (rz ry : List Int) (rb : Bool) (e : Ending) (w' : World) : Prop :=
  ∃ A c B d, e = .returned (.tuple #[.agg #[.int .i64 ri, .int .i64 rt, .slice A rn c, .slice B rm d, .int .i64 rh, .int .i64 re, .int .i64 ru], .bool rb]) ∧ Row w' w.heap.size 82 2 A rn c rz ∧ Row w' w.heap.size 70 5 B rm d ry ∧ (∀ a b, A = some a → B = some b → a.block ≠ b.block) ∧ Below w.heap.size w w'
theorem retSB_of {w : World} {r : Stt × Bool} {e : Ending} {w' : World} {ri rt rh re ru : Int} {rn rm : Nat} {rz ry : List Int} {rb : Bool} (hR : SParts r ri rt rh re ru rn rm rz ry rb) (h : RetStB w r.1 r.2 e w') : RetSB w ri rt rh re ru rn rm rz ry rb e w' := by
  obtain ⟨A, c, B, d, h1, h2, h3, h4, h5⟩ := h
  rw [hR.i, hR.t, hR.h, hR.e, hR.u, hR.n, hR.m, hR.b] at h1
  rw [hR.n, hR.z] at h2
  rw [hR.m, hR.y] at h3
  exact ⟨A, c, B, d, h1, h2, h3, h4, h5⟩
theorem numbersState_r (A : Option Addr) (n cap : Nat) (zs : List Int) (w : World) (hS : Sl w 1 A n zs) (hn : n ≤ 1048576) (hc : n ≤ cap) (hcm : cap ≤ maxLen) (hlt : LtB A w.heap.size) {ri rt rh re ru : Int} {rn rm : Nat} {rz ry : List Int} {rb : Bool} (hR : SParts (numR zs) ri rt rh re ru rn rm rz ry rb) :
    Calls Try.prog 6 #[.slice A n cap] w (RetSB w ri rt rh re ru rn rm rz ry rb) :=
  (numbersState_any A n cap zs w hS hn hc hcm hlt).mono fun _ _ h => retSB_of hR h
end Go.Proofs.Ytokklkmibjpjnaa
namespace Go.Proofs.Ytokklkmibjpjnaa
set_option linter.unusedSimpArgs false
set_option linter.unusedVariables false
attribute [local go_sem] n_lt2 n_lt3 n_lt4 n_le2 n_le3
open Go.RowKit
attribute [local go_sem] Ext.cell Ext.frozen
set_option maxHeartbeats 1600000 in
theorem likeInts_any (A B : Option Addr) (n m cap cap' : Nat) (zs ys : List Int) (w : World) (hS : Sl w 1 A n zs) (hT : Sl w 1 B m ys) (hn : n ≤ maxLen) (hm : m ≤ maxLen) :
    Calls Try.prog 11 #[.slice A n cap, .slice B m cap'] w fun e w' => e = .returned (.bool (eqL zs ys)) ∧ Below w.heap.size w w' := by
  unfold maxLen at hn hm
  by_cases hnm : n = m
  · subst hnm
    have HS := Lib.hid hS
    have HT := Lib.hid hT
    clear hS hT
    go_enter Try.func11, Try.ntmps11
    go_wp2
    go_loopw [5] (fun i wr => ∃ (k : Nat), k ≤ n ∧ i = .int .i64 k ∧ Below w.heap.size w wr ∧ Hid (∀ j, j < k → zs.getD j 0 = ys.getD j 0)) (fun i _ => n - (intOf i).toNat)
    case atStart => exact ⟨0, Nat.zero_le _, rfl, Below.refl _ _, fun j hj => absurd hj (by omega)⟩
    case round =>
      obtain ⟨k, hk, rfl, hbl, hall⟩ := hrel
      by_cases hlt : k < n
      · obtain ⟨b, off, rfl, hb, hcell⟩ := HS.out.at_ (by omega)
        obtain ⟨b', off', rfl, hb', hcell'⟩ := HT.out.at_ (by omega)
        have h0 := hcell (k) (by omega)
        have p0 := hcell' (k) (by omega)
        rw [← hbl.cell (by exact hb)] at h0
        rw [← hbl.cell (by exact hb')] at p0
        clear hcell hcell'
        generalize hx0 : zs.getD (k) 0 = x0 at h0
        generalize hy0 : ys.getD (k) 0 = y0 at p0
        have HX := Lib.hid (And.intro (hx0) (hy0))
        clear hx0 hy0
        have hbr : b < wr.heap.size := Nat.lt_of_lt_of_le hb hbl.size
        have hbr' : b' < wr.heap.size := Nat.lt_of_lt_of_le hb' hbl.size
        by_cases hq : x0 = y0
        · subst hq
          go_wp2
          ((refine wp_region_ext (by kernel_rfl) (by kernel_rfl) ?_); (repeat (any_goals (first | go_big_quiet_step (fail) | (refine wpQuiet_step (fun K hK => ?_); go_simp; split <;> (refine hK _ ?_; clear hK K)) | quiet_step (fail)))); (all_goals (refine wpQuiet_nil ?_; rintro _ ⟨z, rfl⟩; have hb' := z.h; generalize z.w = w1 at hb' ⊢; clear z; (first | (have hb2 := bstep hb' hb hb.size; clear hb' hcb hfb hz1 hz2 hz3 hz4 hb; have hb := hb2; clear hb2) | (have hb := hb'; clear hb')); obtain ⟨hcb, hfb, hz1, hz2, hz3, hz4⟩ := bcell hb; (try simp only [World.size_alloc, World.size_setCell, World.size_drew, Nat.lt_add_one_iff, Nat.add_assoc, Nat.reduceAdd] at hz1 hz2 hz3 hz4))))
          go_wp2
          refine ⟨⟨k + 1, by omega, by go_num, bstep hb hbl hbl.size, ?_⟩, by simp [intOf]; omega⟩
          intro j hj
          have hxy := HX.out
          have he : x0 = x0 := rfl
          rcases (by omega : j < k ∨ j = k) with h | h
          · exact hall.out j h
          · rw [h, hxy.1, hxy.2]
        · have hq' : (x0 == y0) = false := by simpa using hq
          go_wp2
          ((refine wp_region_ext (by kernel_rfl) (by kernel_rfl) ?_); (repeat (any_goals (first | go_big_quiet_step (fail) | (refine wpQuiet_step (fun K hK => ?_); go_simp; split <;> (refine hK _ ?_; clear hK K)) | quiet_step (fail)))); (all_goals (refine wpQuiet_nil ?_; rintro _ ⟨z, rfl⟩; have hb' := z.h; generalize z.w = w1 at hb' ⊢; clear z; (first | (have hb2 := bstep hb' hb hb.size; clear hb' hcb hfb hz1 hz2 hz3 hz4 hb; have hb := hb2; clear hb2) | (have hb := hb'; clear hb')); obtain ⟨hcb, hfb, hz1, hz2, hz3, hz4⟩ := bcell hb; (try simp only [World.size_alloc, World.size_setCell, World.size_drew, Nat.lt_add_one_iff, Nat.add_assoc, Nat.reduceAdd] at hz1 hz2 hz3 hz4))))
          go_wp2
          go_ret
          refine ⟨ret_bool (eqL_ne ?_).symm, bstep hb hbl hbl.size⟩
          rintro rfl
          have hxy := HX.out
          exact hq (hxy.1.symm.trans hxy.2)
      · have hkn : k = n := by omega
        subst hkn
        go_wp2
        go_ret
        have hzy : zs = ys := list_ext_getD (by rw [HS.out.len, HT.out.len]) (fun j hj => hall.out j (by rw [HS.out.len] at hj; omega))
        exact ⟨ret_bool (by rw [hzy]; exact (eqL_self _).symm), hbl⟩
  · have hne : ¬ (n : Int) = (m : Int) := by omega
    have hz : eqL zs ys = false := by
      refine eqL_ne ?_
      rintro rfl
      have h1 := hS.len
      have h2 := hT.len
      omega
    rw [hz]
    clear hz hS hT
    go_enter Try.func11, Try.ntmps11
    go_wp2
    go_ret
    exact ⟨rfl, Below.refl _ _⟩
end Go.Proofs.Ytokklkmibjpjnaa

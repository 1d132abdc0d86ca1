/- OrdersRow: the program's and the reference's. -/
import Derived.Test.YtodkcanhlpgpgaaJ2
import Derived.Test.YtodkcanhlpgpgaaCur
import Derived.Deep.RegionHeldLaw
import Derived.Deep.AppendLies
namespace Go.Proofs.Ytodkcanhlpgpgaa
set_option linter.unusedSimpArgs false
set_option linter.unusedVariables false
attribute [local go_sem] n_lt2 n_lt3 n_lt4 n_le2 n_le3
open Go.RowKit

def ordersRowL (l : List Jb) : List Int := if jobsB l = true then (l.length : Int) :: JB l else []
theorem ordersRowL_len (l : List Jb) : (ordersRowL l).length ≤ 41 := by
  unfold ordersRowL
  split
  · rename_i h
    have := (jobsB_all h).1
    simp [JB_len]; omega
  · simp
theorem JB_append (a b : List Jb) : JB (a ++ b) = JB a ++ JB b := by simp [JB]
theorem cell_five_at (w : World) (x0 x1 x2 x3 x4 : Value) (t : TypeId) (g : Nat) (hg : g = w.heap.size) : ∀ j u, [x0, x1, x2, x3, x4][j]? = some u → (w.alloc (.cells #[x0, x1, x2, x3, x4] t)).cell? ((⟨g, 0, none⟩ : Addr).add j) = some u := by
  subst hg
  intro j u hj
  match j, hj with
  | 0, hj => simp at hj; subst hj; simp [Addr.add]
  | 1, hj => simp at hj; subst hj; simp [Addr.add]
  | 2, hj => simp at hj; subst hj; simp [Addr.add]
  | 3, hj => simp at hj; subst hj; simp [Addr.add]
  | 4, hj => simp at hj; subst hj; simp [Addr.add]
theorem JB_take {l : List Jb} {k : Nat} (h : k < l.length) : JB (l.take (k + 1)) = JB (l.take k) ++ [(l.getD k default).i, (l.getD k default).d, (l.getD k default).k, (l.getD k default).v, (l.getD k default).f] := by
  rw [List.take_add_one, JB_append]
  congr 1
  simp [JB, List.getD, h]
attribute [local go_sem] Ext.cell Ext.frozen

set_option maxRecDepth 100000 in
set_option maxHeartbeats 2000000 in
theorem specOrdersRow_any (A : Option Addr) (n cap : Nat) (l : List Jb) (w : World) (hS : Sl w 5 A n (JB l)) (hl : l.length = n) (hn : n ≤ maxLen) :
    Calls Try.prog 64 #[.slice A n cap] w (RetRow w 2 1 (ordersRowL l).length (ordersRowL l)) := by
  have c1 := specJobsOk_any A n cap l w hS hl hn
  by_cases hpa : jobsB l = true
  · have hv : ordersRowL l = (n : Int) :: JB l := by unfold ordersRowL; rw [if_pos hpa, hl]
    have h10 : n ≤ 8 := by have := (jobsB_all hpa).1; omega
    rw [hv]
    rw [hpa] at c1
    have hL := Lib.hid hl
    have HS := Lib.hid hS
    clear hv hpa hl hS
    unfold maxLen at hn
    go_enter Try.func64, Try.ntmps64
    go_wp2_with fail
    refine c1.mono ?_
    rintro e w1 ⟨rfl, b1⟩
    go_wp2
    go_loopw [3, 4] (fun o i wr => ∃ k A0 n0 c0 zs, k ≤ n ∧ Hid (n0 = 1 + 5 * k) ∧ n0 ≤ 41 ∧ i = .int .i64 (k : Nat) ∧ o = .slice A0 n0 c0 ∧ Row wr w.heap.size 2 1 A0 n0 c0 zs ∧ Hid (zs = (n : Int) :: JB (l.take k)) ∧ Below w.heap.size w wr) (fun _ i _ => n - (intOf i).toNat)
    case atStart => exact ⟨0, _, _, _, _, by omega, Lib.hid rfl, by omega, rfl, rfl, row1i (Blk.new w1 _ _) b1.size, Lib.hid rfl, b1.alloc b1.size _⟩
    case round =>
      obtain ⟨k, A0, n0, c0, zs, hk, hn0, hnb, rfl, rfl, R, hz, hbl⟩ := hrel
      by_cases hlt : k < n
      · obtain ⟨b, off, rfl, hb, hcell⟩ := sl_jobs HS.out (by omega)
        obtain ⟨h0, h1, h2, h3, h4⟩ := hcell k hlt
        clear hcell
        rw [← hbl.cell (by exact hb)] at h0 h1 h2 h3 h4
        generalize hp : l.getD k default = p at h0 h1 h2 h3 h4
        obtain ⟨x, y, x2, x3, x4⟩ := p
        simp only at h0 h1 h2 h3 h4
        have HP := Lib.hid hp
        clear hp
        have hbr : b < wr.heap.size := Nat.lt_of_lt_of_le hb hbl.size
        have hkn : (k : Int) < (n : Int) := by omega
        go_wp2
        have hk0 : ∀ w', Below wr.heap.size wr w' → w'.cell? ⟨b, off + k * 5, none⟩ = some (.int .i64 x) ∧ w'.cell? ⟨b, off + k * 5 + 1, none⟩ = some (.int .i64 y) ∧ w'.cell? ⟨b, off + k * 5 + 2, none⟩ = some (.int .i64 x2) ∧ w'.cell? ⟨b, off + k * 5 + 3, none⟩ = some (.int .i64 x3) ∧ w'.cell? ⟨b, off + k * 5 + 4, none⟩ = some (.int .i64 x4) := fun w' hB => ⟨(hB.cell hbr).trans h0, (hB.cell hbr).trans h1, (hB.cell hbr).trans h2, (hB.cell hbr).trans h3, (hB.cell hbr).trans h4⟩
        have HK := Lib.hid hk0
        have hneb : some b ≠ (Value.slice A0 n0 c0).ownBlock := by
          cases A0 with
          | none => simp [Value.ownBlock]
          | some a0 =>
            have := R.ge a0 rfl
            simp only [Value.ownBlock, ne_eq, Option.some.injEq]
            omega
        have HK5 := Lib.hid (show ∀ W w5, Below wr.heap.size wr W → W.grownBy w5 (Value.slice A0 n0 c0).ownBlock → w5.cell? ⟨b, off + k * 5, none⟩ = some (.int .i64 x) ∧ w5.cell? ⟨b, off + k * 5 + 1, none⟩ = some (.int .i64 y) ∧ w5.cell? ⟨b, off + k * 5 + 2, none⟩ = some (.int .i64 x2) ∧ w5.cell? ⟨b, off + k * 5 + 3, none⟩ = some (.int .i64 x3) ∧ w5.cell? ⟨b, off + k * 5 + 4, none⟩ = some (.int .i64 x4) from fun W w5 hB hg =>
          ⟨(hg.cell_far ⟨b, off + k * 5, none⟩ (Nat.lt_of_lt_of_le hbr hB.size) hneb).trans (hk0 W hB).1, (hg.cell_far ⟨b, off + k * 5 + 1, none⟩ (Nat.lt_of_lt_of_le hbr hB.size) hneb).trans (hk0 W hB).2.1, (hg.cell_far ⟨b, off + k * 5 + 2, none⟩ (Nat.lt_of_lt_of_le hbr hB.size) hneb).trans (hk0 W hB).2.2.1, (hg.cell_far ⟨b, off + k * 5 + 3, none⟩ (Nat.lt_of_lt_of_le hbr hB.size) hneb).trans (hk0 W hB).2.2.2.1, (hg.cell_far ⟨b, off + k * 5 + 4, none⟩ (Nat.lt_of_lt_of_le hbr hB.size) hneb).trans (hk0 W hB).2.2.2.2⟩)
        clear hk0 hneb
        obtain ⟨i0, hi0, hz0, hs0, hy0⟩ := info_parts info_Int64
        go_region_held_law (fun w' => w'.cell? ⟨b, off + k * 5, none⟩ = some (.int .i64 x) ∧ w'.cell? ⟨b, off + k * 5 + 1, none⟩ = some (.int .i64 y) ∧ w'.cell? ⟨b, off + k * 5 + 2, none⟩ = some (.int .i64 x2) ∧ w'.cell? ⟨b, off + k * 5 + 3, none⟩ = some (.int .i64 x3) ∧ w'.cell? ⟨b, off + k * 5 + 4, none⟩ = some (.int .i64 x4))
          (first | exact HK.out _ (Below.drew (Below.refl _ _)) | exact HK.out _ (Below.alloc (Below.drew (Below.refl _ _)) (Nat.le_refl _) _) | exact HK5.out _ _ (Below.alloc (Below.drew (Below.refl _ _)) (Nat.le_refl _) _) (by assumption) | assumption)
          (first | (refine step_append_lies _ rfl _ _ 49 rfl w.heap.size 2 i0 (.int .i64 0) 1 8 Try.underlying49 hi0 hz0 hs0 hy0 rfl (by decide) (.slice A0 n0 c0) n0 (ints zs) rfl (World.ownsRow.alloc R _) ⟨_, 0, none⟩ 5 5 [.int .i64 x, .int .i64 y, .int .i64 x2, .int .i64 x3, .int .i64 x4] rfl rfl (cell_five_at _ _ _ _ _ _ _ _ rfl) (ints_oneCell .i64 [x, y, x2, x3, x4]) (by decide) (by unfold maxLen; omega) (by omega) (by have := hbl.size; simp; omega) _ rfl ?_; intro g c5 w5 hown hgrow hat hlt5))
        have R5 : Row w5 w.heap.size 2 1 (some ⟨g, 0, none⟩) (n0 + 5) c5 (zs ++ [x, y, x2, x3, x4]) := by unfold Row; rw [ints_append]; exact hown
        have B5 : Below w.heap.size w w5 := (hbl.drew.alloc hbl.size _).grown hgrow (by have := hbl.size; simp; omega) (fun q hq => by
          cases A0 with
          | none => simp [Value.ownBlock] at hq
          | some a0 =>
            simp only [Value.ownBlock, Option.some.injEq] at hq
            have := R.ge a0 rfl
            omega)
        clear hgrow hat hlt5 hown HK HK5
        go_wp2
        exact ⟨⟨k + 1, _, _, c5, _, by omega, Lib.hid (by have := hn0.out; omega), by have := hn0.out; omega, by go_num, rfl, R5, Lib.hid (by rw [hz.out, JB_take (hL.out.symm ▸ hlt), HP.out]; rfl), B5⟩, by simp [intOf]; omega⟩
      · have hkn : k = n := by omega
        subst hkn
        go_wp2
        go_ret
        have hzz := hz.out
        rw [List.take_of_length_le (by have := hL.out; omega)] at hzz
        subst hzz
        obtain rfl : n0 = (JB l).length + 1 := by have := hL.out; have := hn0.out; rw [JB_len]; omega
        exact RetRow.mk R hbl
  · have hpa' : jobsB l = false := by simpa using hpa
    have hv : ordersRowL l = [] := by unfold ordersRowL; rw [if_neg hpa]
    rw [hv]
    rw [hpa'] at c1
    go_enter Try.func64, Try.ntmps64
    go_wp2_with fail
    refine c1.mono ?_
    rintro e w1 ⟨rfl, b1⟩
    go_wp2
    go_ret
    exact RetRow.mk (show Row _ _ _ 1 _ 0 0 [] from (Blk.new w1 _ _).row b1.size (by simp [maxLen]) (by simp) (by simp) (fun j hj => absurd hj (by omega))) (b1.alloc b1.size _)
set_option maxRecDepth 100000 in
set_option maxHeartbeats 2000000 in
theorem putJobs_any (A : Option Addr) (n cap p n0 : Nat) (l : List Jb) (zs0 : List Int) (wb w : World) (hS : Sl wb 5 A n (JB l)) (hl : l.length = n) (hn : n ≤ 10) (hn0 : n0 ≤ 1000) (hB : Below wb.heap.size wb w) (hC : Cur w wb.heap.size p 2 87 n0 zs0) :
    Calls Try.prog 68 #[.pointer (some ⟨p, 0, none⟩), .slice A n cap] w fun e w' => e = .returned (.tuple #[]) ∧ Cur w' wb.heap.size p 2 87 (n0 + 1 + 5 * n) (zs0 ++ ((n : Int) :: JB l)) ∧ Below wb.heap.size wb w' := by
  have hL := Lib.hid hl
  have HS := Lib.hid hS
  have HC := Lib.hid hC
  clear hl hS hC
  go_enter Try.func68, Try.ntmps68
  go_wp2_with fail
  refine (put_any wb.heap.size p n0 1 1 zs0 [(n : Int)] _ _ (HC.out.alloc _) rfl (cell_one_new _ _ _) (by omega)).mono ?_
  rintro e w1 ⟨rfl, C1, b1⟩
  have f1 : Below wb.heap.size wb w1 := (hB.alloc hB.size _).trans b1
  have HC1 := Lib.hid C1
  clear C1 b1 HC
  go_wp2
  go_loopw [13] (fun i wr => ∃ k : Nat, k ≤ n ∧ i = .int .i64 k ∧ Below wb.heap.size wb wr ∧ Hid (Cur wr wb.heap.size p 2 87 (n0 + 1 + 5 * k) (zs0 ++ ((n : Int) :: JB (l.take k))))) (fun i _ => n - (intOf i).toNat)
  case atStart => exact ⟨0, Nat.zero_le _, rfl, f1, Lib.hid (by simpa [JB] using HC1.out)⟩
  case round =>
    obtain ⟨k, hk, rfl, hbl, hcu⟩ := hrel
    by_cases hlt : k < n
    · obtain ⟨b, off, rfl, hb, hcell⟩ := sl_jobs HS.out (by omega)
      obtain ⟨h0, h1, h2, h3, h4⟩ := hcell k hlt
      clear hcell
      rw [← hbl.cell (by exact hb)] at h0 h1 h2 h3 h4
      generalize hpp : l.getD k default = pp at h0 h1 h2 h3 h4
      obtain ⟨x, y, x2, x3, x4⟩ := pp
      simp only at h0 h1 h2 h3 h4
      have HP := Lib.hid hpp
      clear hpp
      have hbr : b < wr.heap.size := Nat.lt_of_lt_of_le hb hbl.size
      have hkn : (k : Int) < (n : Int) := by omega
      go_wp2_with fail
      refine calls_named ?_
      rintro wq hwq
      have CQ : Cur wq wb.heap.size p 2 87 (n0 + 1 + 5 * k) (zs0 ++ ((n : Int) :: JB (l.take k))) := by rw [hwq]; exact (hcu.out.alloc _).alloc _
      have hnw : ∀ j u, (ints [x, y, x2, x3, x4])[j]? = some u → wq.cell? ((⟨wr.heap.size + 1, 0, none⟩ : Addr).add j) = some u := by rw [hwq]; exact cell_five_at _ _ _ _ _ _ _ _ (by simp)
      have fq : Below wb.heap.size wb wq := by rw [hwq]; exact (hbl.alloc hbl.size _).alloc (by have := hbl.size; simp; omega) _
      clear hwq
      refine (put_any wb.heap.size p (n0 + 1 + 5 * k) 5 5 (zs0 ++ ((n : Int) :: JB (l.take k))) [x, y, x2, x3, x4] _ wq CQ rfl hnw (by omega)).mono ?_
      rintro e w2 ⟨rfl, C2, b2⟩
      have f2 : Below wb.heap.size wb w2 := fq.trans b2
      have HC2 := Lib.hid C2
      clear C2 b2
      go_wp2
      refine ⟨⟨k + 1, by omega, by go_num, f2, Lib.hid ?_⟩, by simp [intOf]; omega⟩
      rw [JB_take (hL.out.symm ▸ hlt), HP.out]
      have := HC2.out
      rw [List.append_assoc, List.cons_append] at this
      exact this
    · have hkn : k = n := by omega
      subst hkn
      go_wp2
      go_end0
      have := hcu.out
      rw [List.take_of_length_le (by have := hL.out; omega)] at this
      exact ⟨rfl, this, hbl⟩
end Go.Proofs.Ytodkcanhlpgpgaa

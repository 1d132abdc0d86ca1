/- Clients: the reference's HeardValue. -/
import Derived.Test.YtbcpcddmekoaeaaC11
namespace Go.Proofs.Ytbcpcddmekoaeaa
set_option linter.unusedSimpArgs false
set_option linter.unusedVariables false
attribute [local go_sem] n_lt2 n_lt3 n_lt4 n_le2 n_le3
open Go.RowKit
attribute [local go_sem] Ext.cell Ext.frozen
set_option maxRecDepth 100000 in
set_option maxHeartbeats 8000000 in
theorem specHeardValue_any (A : Option Addr) (n c : Nat) (B : Option Addr) (m d : Nat) (i0 t0 : Int) (wl : List Wt) (gl : List Gt) (a0 a1 a2 a3 a4 : Int) (w : World) (hP : Sl w 7 A n (WT wl)) (hQ : Sl w 4 B m (GT gl)) (hl : wl.length = n) (hr : gl.length = m) (hn : n ≤ maxLen) (hm : m ≤ maxLen) :
    Calls Try.prog 38 #[.agg #[.int .i64 i0, .slice A n c, .slice B m d, .int .i64 t0], .agg #[.int .i64 a0, .int .i64 a1, .int .i64 a2, .int .i64 a3, .int .i64 a4]] w (RetR w (heardR i0 wl gl t0 (valFit i0 wl gl t0 a0 a1 a2 a3 a4) ⟨pendS wl gl, a2, a3, a4⟩)) := by
  have HP := Lib.hid (fun (w' : World) (hB : Below w.heap.size w w') => hP.below hB)
  have HQ := Lib.hid (fun (w' : World) (hB : Below w.heap.size w w') => hQ.below hB)
  have c1 := fun (v : World) (hv : Sl v 7 A n (WT wl)) (hu : Sl v 4 B m (GT gl)) => specClientOk_any A n c B m d i0 t0 wl gl v hv hu hl hr hn hm
  clear hP hQ
  have c2 := fun (v : World) (hv : Sl v 7 A n (WT wl)) (hu : Sl v 4 B m (GT gl)) => specNextSeq_any A n c B m d i0 t0 wl gl v hv hu hl hr hn hm
  cases hb : clientB i0 wl gl t0 with
  | false =>
    rw [heardR_nil hb]
    rw [hb] at c1
    have C1 := Lib.hid c1
    clear c1 c2
    go_enter Try.func38, Try.ntmps38
    go_wp2_with fail
    obtain ⟨v0, hv⟩ : ∃ x : World, x = (((w.alloc (.cells #[.int .i64 i0, .slice A n c, .slice B m d, .int .i64 t0] 31)).alloc (.cells #[.int .i64 a0, .int .i64 a1, .int .i64 a2, .int .i64 a3, .int .i64 a4] 51)).alloc (.cells #[.int .i64 0, .slice none 0 0, .slice none 0 0, .int .i64 0] 31)) := ⟨_, rfl⟩
    rw [← hv]
    have F_0 : Below w.heap.size w v0 := by rw [hv]; (repeat' (first | (with_reducible exact Below.refl _ _) | (with_reducible assumption) | (with_reducible refine Below.alloc ?_ ?_ _) | (with_reducible refine Below.drew ?_) | (with_reducible refine Below.setCell ?_ ?_ _) | (with_reducible refine bstep (by assumption) ?_ ?_) | (with_reducible exact Nat.le_refl _) | omega | (simp [*]; done) | (simp [*]; omega)))
    have K_0 : Blk v0 w.heap.size 31 #[.int .i64 i0, .slice A n c, .slice B m d, .int .i64 t0] := by rw [hv]; exact ((Blk.new_at _ _ _ _ rfl).alloc _).alloc _
    have G_0 : Blk v0 (w.heap.size + 1) 51 #[.int .i64 a0, .int .i64 a1, .int .i64 a2, .int .i64 a3, .int .i64 a4] := by rw [hv]; exact (Blk.new_at _ _ _ _ (by simp)).alloc _
    have R_0 : Blk v0 (w.heap.size + 1 + 1) 31 #[.int .i64 0, .slice none 0 0, .slice none 0 0, .int .i64 0] := by rw [hv]; exact Blk.new_at _ _ _ _ (by simp)
    clear hv
    have R_v0 := R_0.lt
    refine (C1.out v0 (HP.out v0 F_0) (HQ.out v0 F_0)).mono ?_
    rintro e w1 ⟨rfl, b1⟩
    have K_1 := K_0.below b1
    clear K_0
    have G_1 := G_0.below b1
    clear G_0
    have R_1 := R_0.below b1
    clear R_0
    have F_1 := bthen F_0 b1
    have rRl := R_1.lt
    have rR0 := R_1.cell 0
    have rR1 := R_1.cell 1
    have rR2 := R_1.cell 2
    have rR3 := R_1.cell 3
    have rRz0 := R_1.frozen 0
    have rRz1 := R_1.frozen 1
    have rRz2 := R_1.frozen 2
    have rRz3 := R_1.frozen 3
    go_wp2
    refine bodyPost_ret (v := .agg #[.int .i64 0, .slice none 0 0, .slice none 0 0, .int .i64 0]) (by simp [results, Try.results38, go_sem, *]) rfl (retR_nil (four_below F_1 (Nat.le_succ_of_le (Nat.le_succ _)) _ _ _ _))
  | true =>
    have hle := clientB_le hb
    rw [hl, hr] at hle
    rw [hb] at c1
    have C1 := Lib.hid c1
    clear c1
    have hsq : seqI i0 wl gl t0 = pendS wl gl := by unfold seqI; rw [if_pos hb]
    by_cases hz : gl.length = wl.length
    · have hs0 : pendS wl gl = 0 := by unfold pendS; rw [if_pos hz]
      rw [hsq, hs0] at c2
      have C2 := Lib.hid c2
      clear c2 hsq
      rw [heardR_no hb (show valFit i0 wl gl t0 a0 a1 a2 a3 a4 = false by unfold valFit; rw [hs0]; cases hq : valB a0 a1 a2 a3 a4 with | false => rfl | true => (have := valB_q hq; rw [decide_eq_false (show ¬ (0 : Int) = a1 by omega)]; simp))]
      clear hb hz hs0
      show Calls _ _ _ w (RetHeard w w.heap.size i0 t0 wl.length (WT wl) gl.length (GT gl))
      rw [hl, hr]
      go_enter Try.func38, Try.ntmps38
      go_wp2_with fail
      obtain ⟨v0, hv⟩ : ∃ x : World, x = (((w.alloc (.cells #[.int .i64 i0, .slice A n c, .slice B m d, .int .i64 t0] 31)).alloc (.cells #[.int .i64 a0, .int .i64 a1, .int .i64 a2, .int .i64 a3, .int .i64 a4] 51)).alloc (.cells #[.int .i64 0, .slice none 0 0, .slice none 0 0, .int .i64 0] 31)) := ⟨_, rfl⟩
      rw [← hv]
      have F_0 : Below w.heap.size w v0 := by rw [hv]; (repeat' (first | (with_reducible exact Below.refl _ _) | (with_reducible assumption) | (with_reducible refine Below.alloc ?_ ?_ _) | (with_reducible refine Below.drew ?_) | (with_reducible refine Below.setCell ?_ ?_ _) | (with_reducible refine bstep (by assumption) ?_ ?_) | (with_reducible exact Nat.le_refl _) | omega | (simp [*]; done) | (simp [*]; omega)))
      have K_0 : Blk v0 w.heap.size 31 #[.int .i64 i0, .slice A n c, .slice B m d, .int .i64 t0] := by rw [hv]; exact ((Blk.new_at _ _ _ _ rfl).alloc _).alloc _
      have G_0 : Blk v0 (w.heap.size + 1) 51 #[.int .i64 a0, .int .i64 a1, .int .i64 a2, .int .i64 a3, .int .i64 a4] := by rw [hv]; exact (Blk.new_at _ _ _ _ (by simp)).alloc _
      have R_0 : Blk v0 (w.heap.size + 1 + 1) 31 #[.int .i64 0, .slice none 0 0, .slice none 0 0, .int .i64 0] := by rw [hv]; exact Blk.new_at _ _ _ _ (by simp)
      clear hv
      have R_v0 := R_0.lt
      refine (C1.out v0 (HP.out v0 F_0) (HQ.out v0 F_0)).mono ?_
      rintro e w1 ⟨rfl, b1⟩
      have K_1 := K_0.below b1
      clear K_0
      have G_1 := G_0.below b1
      clear G_0
      have R_1 := R_0.below b1
      clear R_0
      have F_1 := bthen F_0 b1
      have Z_1 : v0.heap.size ≤ w1.heap.size := b1.size
      have rKl := K_1.lt
      have rK0 := K_1.cell 0
      have rK1 := K_1.cell 1
      have rK2 := K_1.cell 2
      have rK3 := K_1.cell 3
      go_wp2_with fail
      refine (C2.out w1 (HP.out w1 F_1) (HQ.out w1 F_1)).mono ?_
      rintro e w2 ⟨rfl, b2⟩
      clear rKl rK0 rK1 rK2 rK3
      have K_2 := K_1.below b2
      clear K_1
      have G_2 := G_1.below b2
      clear G_1
      have R_2 := R_1.below b2
      clear R_1
      have F_2 := bthen F_1 b2
      have Z_2 : v0.heap.size ≤ w2.heap.size := Nat.le_trans Z_1 b2.size
      have rKl := K_2.lt
      have rK0 := K_2.cell 0
      have rK1 := K_2.cell 1
      have rK2 := K_2.cell 2
      have rK3 := K_2.cell 3
      go_wp2_with fail
      refine (l13Copy_any A n c B m d i0 t0 (WT wl) (GT gl) w2 (HP.out w2 F_2) (HQ.out w2 F_2) (by omega) (by omega)).mono ?_
      rintro e w3 ⟨A', c', B', d', rfl, RA, RB, hne, b3⟩
      clear rKl rK0 rK1 rK2 rK3
      have K_3 := K_2.below b3
      clear K_2
      have G_3 := G_2.below b3
      clear G_2
      have R_3 := R_2.below b3
      clear R_2
      have F_3 := bthen F_2 b3
      have Z_3 : v0.heap.size ≤ w3.heap.size := Nat.le_trans Z_2 b3.size
      have RA2 := RA.mono (show v0.heap.size ≤ w2.heap.size from Z_2)
      have RB2 := RB.mono (show v0.heap.size ≤ w2.heap.size from Z_2)
      have hap : ∀ a b, some A' = some a → some B' = some b → a.block ≠ b.block := fun a b ha hb => by injection ha with ha; injection hb with hb; subst ha; subst hb; exact hne
      have hz0 := F_0.size
      have hA : ∀ a, ((some A') : Option Addr) = some a → a.block ≠ w.heap.size + 1 + 1 := fun a ha => by have := RA2.ge a ha; omega
      have hB : ∀ a, ((some B') : Option Addr) = some a → a.block ≠ w.heap.size + 1 + 1 := fun a ha => by have := RB2.ge a ha; omega
      have hle : w.heap.size ≤ v0.heap.size := by omega
      have hF := F_3
      have HX := Lib.hid (And.intro hA (And.intro hB (And.intro hle hF)))
      clear hA hB hle hF
      have HPX := Lib.hid RA2
      have HQX := Lib.hid RB2
      have HAX := Lib.hid hap
      have rRl := R_3.lt
      have rR0 := R_3.cell 0
      have rR1 := R_3.cell 1
      have rR2 := R_3.cell 2
      have rR3 := R_3.cell 3
      have rRz0 := R_3.frozen 0
      have rRz1 := R_3.frozen 1
      have rRz2 := R_3.frozen 2
      have rRz3 := R_3.frozen 3
      go_wp2
      refine bodyPost_ret (v := .agg #[.int .i64 i0, .slice (some A') n c', .slice (some B') m d', .int .i64 t0]) (by simp [results, Try.results38, go_sem, *]) rfl ⟨_, _, _, _, rfl, ?_, ?_, HAX.out, ?_⟩
      · exact (four_sets HPX.out HX.out.1 _ _ _ _).mono HX.out.2.2.1
      · exact (four_sets HQX.out HX.out.2.1 _ _ _ _).mono HX.out.2.2.1
      · exact four_below HX.out.2.2.2 (Nat.le_succ_of_le (Nat.le_succ _)) _ _ _ _
    have hs1 : pendS wl gl = (m : Int) + 1 := by unfold pendS; rw [if_neg hz, hr]
    have hw1 : pendW wl gl = wl.getD m default := by unfold pendW; rw [if_neg hz, hr]
    rw [hsq, hs1] at c2
    have C2 := Lib.hid c2
    clear c2 hsq
    have hmn : m < n := by omega
    have hlt : (m : Int) < (n : Int) := by omega
    have hws : IntKind.i64.wrap ((m : Int) + 1 - 1) = (m : Int) := by rw [IntKind.wrap_i64]; omega
    have hnz : ¬ (m : Int) + 1 = 0 := by omega
    have hnz2 : ((m : Int) + 1 == 0) = false := by rw [beqI]; exact decide_eq_false hnz
    have hPw := HP.out w (Below.refl _ _)
    obtain ⟨bw, ow, hA0, hbw, hcw⟩ := sl_wants hPw (show 0 < n by omega)
    have hk9 := (hcw m hmn).1
    clear hcw hPw
    obtain ⟨k, hk⟩ : ∃ k, (wl.getD m default).k = k := ⟨_, rfl⟩
    rw [hk] at hk9
    have hkw : (pendW wl gl).k = k := by rw [hw1, hk]
    have HK := Lib.hid hk9
    clear hk9 hk hw1 hz
    subst hA0
    cases hB : valB a0 a1 a2 a3 a4 with
    | false =>
      have HB := Lib.hid hB
      rw [heardR_no hb (show valFit i0 wl gl t0 a0 a1 a2 a3 a4 = false by unfold valFit; rw [hB]; rfl)]
      clear hb
      show Calls _ _ _ w (RetHeard w w.heap.size i0 t0 wl.length (WT wl) gl.length (GT gl))
      rw [hl, hr]
      go_enter Try.func38, Try.ntmps38
      go_wp2_with fail
      obtain ⟨v0, hv⟩ : ∃ x : World, x = (((w.alloc (.cells #[.int .i64 i0, .slice (some ⟨bw, ow, none⟩) n c, .slice B m d, .int .i64 t0] 31)).alloc (.cells #[.int .i64 a0, .int .i64 a1, .int .i64 a2, .int .i64 a3, .int .i64 a4] 51)).alloc (.cells #[.int .i64 0, .slice none 0 0, .slice none 0 0, .int .i64 0] 31)) := ⟨_, rfl⟩
      rw [← hv]
      have F_0 : Below w.heap.size w v0 := by rw [hv]; (repeat' (first | (with_reducible exact Below.refl _ _) | (with_reducible assumption) | (with_reducible refine Below.alloc ?_ ?_ _) | (with_reducible refine Below.drew ?_) | (with_reducible refine Below.setCell ?_ ?_ _) | (with_reducible refine bstep (by assumption) ?_ ?_) | (with_reducible exact Nat.le_refl _) | omega | (simp [*]; done) | (simp [*]; omega)))
      have K_0 : Blk v0 w.heap.size 31 #[.int .i64 i0, .slice (some ⟨bw, ow, none⟩) n c, .slice B m d, .int .i64 t0] := by rw [hv]; exact ((Blk.new_at _ _ _ _ rfl).alloc _).alloc _
      have G_0 : Blk v0 (w.heap.size + 1) 51 #[.int .i64 a0, .int .i64 a1, .int .i64 a2, .int .i64 a3, .int .i64 a4] := by rw [hv]; exact (Blk.new_at _ _ _ _ (by simp)).alloc _
      have R_0 : Blk v0 (w.heap.size + 1 + 1) 31 #[.int .i64 0, .slice none 0 0, .slice none 0 0, .int .i64 0] := by rw [hv]; exact Blk.new_at _ _ _ _ (by simp)
      clear hv
      have R_v0 := R_0.lt
      refine (C1.out v0 (HP.out v0 F_0) (HQ.out v0 F_0)).mono ?_
      rintro e w1 ⟨rfl, b1⟩
      have K_1 := K_0.below b1
      clear K_0
      have G_1 := G_0.below b1
      clear G_0
      have R_1 := R_0.below b1
      clear R_0
      have F_1 := bthen F_0 b1
      have Z_1 : v0.heap.size ≤ w1.heap.size := b1.size
      have rKl := K_1.lt
      have rK0 := K_1.cell 0
      have rK1 := K_1.cell 1
      have rK2 := K_1.cell 2
      have rK3 := K_1.cell 3
      go_wp2_with fail
      refine (C2.out w1 (HP.out w1 F_1) (HQ.out w1 F_1)).mono ?_
      rintro e w2 ⟨rfl, b2⟩
      clear rKl rK0 rK1 rK2 rK3
      have K_2 := K_1.below b2
      clear K_1
      have G_2 := G_1.below b2
      clear G_1
      have R_2 := R_1.below b2
      clear R_1
      have F_2 := bthen F_1 b2
      have Z_2 : v0.heap.size ≤ w2.heap.size := Nat.le_trans Z_1 b2.size
      have e3 := specValOk_any a0 a1 a2 a3 a4 w2
      rw [HB.out] at e3
      have rGl := G_2.lt
      have rG0 := G_2.cell 0
      have rG1 := G_2.cell 1
      have rG2 := G_2.cell 2
      have rG3 := G_2.cell 3
      have rG4 := G_2.cell 4
      have rKl := K_2.lt
      have rK0 := K_2.cell 0
      have rK1 := K_2.cell 1
      have rK2 := K_2.cell 2
      have rK3 := K_2.cell 3
      go_wp2_with fail
      refine (e3).mono ?_
      rintro e w3 ⟨rfl, b3⟩
      clear rGl rG0 rG1 rG2 rG3 rG4
      clear rKl rK0 rK1 rK2 rK3
      have K_3 := K_2.below b3
      clear K_2
      have G_3 := G_2.below b3
      clear G_2
      have R_3 := R_2.below b3
      clear R_2
      have F_3 := bthen F_2 b3
      have Z_3 : v0.heap.size ≤ w3.heap.size := Nat.le_trans Z_2 b3.size
      clear e3
      have rKl := K_3.lt
      have rK0 := K_3.cell 0
      have rK1 := K_3.cell 1
      have rK2 := K_3.cell 2
      have rK3 := K_3.cell 3
      have rGl := G_3.lt
      have rG0 := G_3.cell 0
      have rG1 := G_3.cell 1
      have rG2 := G_3.cell 2
      have rG3 := G_3.cell 3
      have rG4 := G_3.cell 4
      go_wp2_with fail
      refine (l13Copy_any (some ⟨bw, ow, none⟩) n c B m d i0 t0 (WT wl) (GT gl) w3 (HP.out w3 F_3) (HQ.out w3 F_3) (by omega) (by omega)).mono ?_
      rintro e w4 ⟨A', c', B', d', rfl, RA, RB, hne, b4⟩
      clear rKl rK0 rK1 rK2 rK3
      clear rGl rG0 rG1 rG2 rG3 rG4
      have K_4 := K_3.below b4
      clear K_3
      have G_4 := G_3.below b4
      clear G_3
      have R_4 := R_3.below b4
      clear R_3
      have F_4 := bthen F_3 b4
      have Z_4 : v0.heap.size ≤ w4.heap.size := Nat.le_trans Z_3 b4.size
      have RA2 := RA.mono (show v0.heap.size ≤ w3.heap.size from Z_3)
      have RB2 := RB.mono (show v0.heap.size ≤ w3.heap.size from Z_3)
      have hap : ∀ a b, some A' = some a → some B' = some b → a.block ≠ b.block := fun a b ha hb => by injection ha with ha; injection hb with hb; subst ha; subst hb; exact hne
      have hz0 := F_0.size
      have hA : ∀ a, ((some A') : Option Addr) = some a → a.block ≠ w.heap.size + 1 + 1 := fun a ha => by have := RA2.ge a ha; omega
      have hB : ∀ a, ((some B') : Option Addr) = some a → a.block ≠ w.heap.size + 1 + 1 := fun a ha => by have := RB2.ge a ha; omega
      have hle : w.heap.size ≤ v0.heap.size := by omega
      have hF := F_4
      have HX := Lib.hid (And.intro hA (And.intro hB (And.intro hle hF)))
      clear hA hB hle hF
      have HPX := Lib.hid RA2
      have HQX := Lib.hid RB2
      have HAX := Lib.hid hap
      have rRl := R_4.lt
      have rR0 := R_4.cell 0
      have rR1 := R_4.cell 1
      have rR2 := R_4.cell 2
      have rR3 := R_4.cell 3
      have rRz0 := R_4.frozen 0
      have rRz1 := R_4.frozen 1
      have rRz2 := R_4.frozen 2
      have rRz3 := R_4.frozen 3
      go_wp2
      refine bodyPost_ret (v := .agg #[.int .i64 i0, .slice (some A') n c', .slice (some B') m d', .int .i64 t0]) (by simp [results, Try.results38, go_sem, *]) rfl ⟨_, _, _, _, rfl, ?_, ?_, HAX.out, ?_⟩
      · exact (four_sets HPX.out HX.out.1 _ _ _ _).mono HX.out.2.2.1
      · exact (four_sets HQX.out HX.out.2.1 _ _ _ _).mono HX.out.2.2.1
      · exact four_below HX.out.2.2.2 (Nat.le_succ_of_le (Nat.le_succ _)) _ _ _ _
    | true =>
      have HB := Lib.hid hB
      by_cases hc : i0 = a0
      rotate_left
      · skip
        rw [heardR_no hb (show valFit i0 wl gl t0 a0 a1 a2 a3 a4 = false by unfold valFit; rw [decide_eq_false hc]; simp)]
        clear hb
        show Calls _ _ _ w (RetHeard w w.heap.size i0 t0 wl.length (WT wl) gl.length (GT gl))
        rw [hl, hr]
        go_enter Try.func38, Try.ntmps38
        go_wp2_with fail
        obtain ⟨v0, hv⟩ : ∃ x : World, x = (((w.alloc (.cells #[.int .i64 i0, .slice (some ⟨bw, ow, none⟩) n c, .slice B m d, .int .i64 t0] 31)).alloc (.cells #[.int .i64 a0, .int .i64 a1, .int .i64 a2, .int .i64 a3, .int .i64 a4] 51)).alloc (.cells #[.int .i64 0, .slice none 0 0, .slice none 0 0, .int .i64 0] 31)) := ⟨_, rfl⟩
        rw [← hv]
        have F_0 : Below w.heap.size w v0 := by rw [hv]; (repeat' (first | (with_reducible exact Below.refl _ _) | (with_reducible assumption) | (with_reducible refine Below.alloc ?_ ?_ _) | (with_reducible refine Below.drew ?_) | (with_reducible refine Below.setCell ?_ ?_ _) | (with_reducible refine bstep (by assumption) ?_ ?_) | (with_reducible exact Nat.le_refl _) | omega | (simp [*]; done) | (simp [*]; omega)))
        have K_0 : Blk v0 w.heap.size 31 #[.int .i64 i0, .slice (some ⟨bw, ow, none⟩) n c, .slice B m d, .int .i64 t0] := by rw [hv]; exact ((Blk.new_at _ _ _ _ rfl).alloc _).alloc _
        have G_0 : Blk v0 (w.heap.size + 1) 51 #[.int .i64 a0, .int .i64 a1, .int .i64 a2, .int .i64 a3, .int .i64 a4] := by rw [hv]; exact (Blk.new_at _ _ _ _ (by simp)).alloc _
        have R_0 : Blk v0 (w.heap.size + 1 + 1) 31 #[.int .i64 0, .slice none 0 0, .slice none 0 0, .int .i64 0] := by rw [hv]; exact Blk.new_at _ _ _ _ (by simp)
        clear hv
        have R_v0 := R_0.lt
        refine (C1.out v0 (HP.out v0 F_0) (HQ.out v0 F_0)).mono ?_
        rintro e w1 ⟨rfl, b1⟩
        have K_1 := K_0.below b1
        clear K_0
        have G_1 := G_0.below b1
        clear G_0
        have R_1 := R_0.below b1
        clear R_0
        have F_1 := bthen F_0 b1
        have Z_1 : v0.heap.size ≤ w1.heap.size := b1.size
        have rKl := K_1.lt
        have rK0 := K_1.cell 0
        have rK1 := K_1.cell 1
        have rK2 := K_1.cell 2
        have rK3 := K_1.cell 3
        go_wp2_with fail
        refine (C2.out w1 (HP.out w1 F_1) (HQ.out w1 F_1)).mono ?_
        rintro e w2 ⟨rfl, b2⟩
        clear rKl rK0 rK1 rK2 rK3
        have K_2 := K_1.below b2
        clear K_1
        have G_2 := G_1.below b2
        clear G_1
        have R_2 := R_1.below b2
        clear R_1
        have F_2 := bthen F_1 b2
        have Z_2 : v0.heap.size ≤ w2.heap.size := Nat.le_trans Z_1 b2.size
        have e3 := specValOk_any a0 a1 a2 a3 a4 w2
        rw [HB.out] at e3
        have rGl := G_2.lt
        have rG0 := G_2.cell 0
        have rG1 := G_2.cell 1
        have rG2 := G_2.cell 2
        have rG3 := G_2.cell 3
        have rG4 := G_2.cell 4
        have rKl := K_2.lt
        have rK0 := K_2.cell 0
        have rK1 := K_2.cell 1
        have rK2 := K_2.cell 2
        have rK3 := K_2.cell 3
        go_wp2_with fail
        refine (e3).mono ?_
        rintro e w3 ⟨rfl, b3⟩
        clear rGl rG0 rG1 rG2 rG3 rG4
        clear rKl rK0 rK1 rK2 rK3
        have K_3 := K_2.below b3
        clear K_2
        have G_3 := G_2.below b3
        clear G_2
        have R_3 := R_2.below b3
        clear R_2
        have F_3 := bthen F_2 b3
        have Z_3 : v0.heap.size ≤ w3.heap.size := Nat.le_trans Z_2 b3.size
        clear e3
        have rKl := K_3.lt
        have rK0 := K_3.cell 0
        have rK1 := K_3.cell 1
        have rK2 := K_3.cell 2
        have rK3 := K_3.cell 3
        have rGl := G_3.lt
        have rG0 := G_3.cell 0
        have rG1 := G_3.cell 1
        have rG2 := G_3.cell 2
        have rG3 := G_3.cell 3
        have rG4 := G_3.cell 4
        go_wp2_with fail
        refine (l13Copy_any (some ⟨bw, ow, none⟩) n c B m d i0 t0 (WT wl) (GT gl) w3 (HP.out w3 F_3) (HQ.out w3 F_3) (by omega) (by omega)).mono ?_
        rintro e w4 ⟨A', c', B', d', rfl, RA, RB, hne, b4⟩
        clear rKl rK0 rK1 rK2 rK3
        clear rGl rG0 rG1 rG2 rG3 rG4
        have K_4 := K_3.below b4
        clear K_3
        have G_4 := G_3.below b4
        clear G_3
        have R_4 := R_3.below b4
        clear R_3
        have F_4 := bthen F_3 b4
        have Z_4 : v0.heap.size ≤ w4.heap.size := Nat.le_trans Z_3 b4.size
        have RA2 := RA.mono (show v0.heap.size ≤ w3.heap.size from Z_3)
        have RB2 := RB.mono (show v0.heap.size ≤ w3.heap.size from Z_3)
        have hap : ∀ a b, some A' = some a → some B' = some b → a.block ≠ b.block := fun a b ha hb => by injection ha with ha; injection hb with hb; subst ha; subst hb; exact hne
        have hz0 := F_0.size
        have hA : ∀ a, ((some A') : Option Addr) = some a → a.block ≠ w.heap.size + 1 + 1 := fun a ha => by have := RA2.ge a ha; omega
        have hB : ∀ a, ((some B') : Option Addr) = some a → a.block ≠ w.heap.size + 1 + 1 := fun a ha => by have := RB2.ge a ha; omega
        have hle : w.heap.size ≤ v0.heap.size := by omega
        have hF := F_4
        have HX := Lib.hid (And.intro hA (And.intro hB (And.intro hle hF)))
        clear hA hB hle hF
        have HPX := Lib.hid RA2
        have HQX := Lib.hid RB2
        have HAX := Lib.hid hap
        have rRl := R_4.lt
        have rR0 := R_4.cell 0
        have rR1 := R_4.cell 1
        have rR2 := R_4.cell 2
        have rR3 := R_4.cell 3
        have rRz0 := R_4.frozen 0
        have rRz1 := R_4.frozen 1
        have rRz2 := R_4.frozen 2
        have rRz3 := R_4.frozen 3
        go_wp2
        refine bodyPost_ret (v := .agg #[.int .i64 i0, .slice (some A') n c', .slice (some B') m d', .int .i64 t0]) (by simp [results, Try.results38, go_sem, *]) rfl ⟨_, _, _, _, rfl, ?_, ?_, HAX.out, ?_⟩
        · exact (four_sets HPX.out HX.out.1 _ _ _ _).mono HX.out.2.2.1
        · exact (four_sets HQX.out HX.out.2.1 _ _ _ _).mono HX.out.2.2.1
        · exact four_below HX.out.2.2.2 (Nat.le_succ_of_le (Nat.le_succ _)) _ _ _ _
      subst hc
      by_cases hq : pendS wl gl = a1
      rotate_left
      · skip
        rw [heardR_no hb (show valFit i0 wl gl t0 i0 a1 a2 a3 a4 = false by unfold valFit; rw [decide_eq_false hq]; simp)]
        clear hb
        show Calls _ _ _ w (RetHeard w w.heap.size i0 t0 wl.length (WT wl) gl.length (GT gl))
        rw [hl, hr]
        go_enter Try.func38, Try.ntmps38
        go_wp2_with fail
        obtain ⟨v0, hv⟩ : ∃ x : World, x = (((w.alloc (.cells #[.int .i64 i0, .slice (some ⟨bw, ow, none⟩) n c, .slice B m d, .int .i64 t0] 31)).alloc (.cells #[.int .i64 i0, .int .i64 a1, .int .i64 a2, .int .i64 a3, .int .i64 a4] 51)).alloc (.cells #[.int .i64 0, .slice none 0 0, .slice none 0 0, .int .i64 0] 31)) := ⟨_, rfl⟩
        rw [← hv]
        have F_0 : Below w.heap.size w v0 := by rw [hv]; (repeat' (first | (with_reducible exact Below.refl _ _) | (with_reducible assumption) | (with_reducible refine Below.alloc ?_ ?_ _) | (with_reducible refine Below.drew ?_) | (with_reducible refine Below.setCell ?_ ?_ _) | (with_reducible refine bstep (by assumption) ?_ ?_) | (with_reducible exact Nat.le_refl _) | omega | (simp [*]; done) | (simp [*]; omega)))
        have K_0 : Blk v0 w.heap.size 31 #[.int .i64 i0, .slice (some ⟨bw, ow, none⟩) n c, .slice B m d, .int .i64 t0] := by rw [hv]; exact ((Blk.new_at _ _ _ _ rfl).alloc _).alloc _
        have G_0 : Blk v0 (w.heap.size + 1) 51 #[.int .i64 i0, .int .i64 a1, .int .i64 a2, .int .i64 a3, .int .i64 a4] := by rw [hv]; exact (Blk.new_at _ _ _ _ (by simp)).alloc _
        have R_0 : Blk v0 (w.heap.size + 1 + 1) 31 #[.int .i64 0, .slice none 0 0, .slice none 0 0, .int .i64 0] := by rw [hv]; exact Blk.new_at _ _ _ _ (by simp)
        clear hv
        have R_v0 := R_0.lt
        refine (C1.out v0 (HP.out v0 F_0) (HQ.out v0 F_0)).mono ?_
        rintro e w1 ⟨rfl, b1⟩
        have K_1 := K_0.below b1
        clear K_0
        have G_1 := G_0.below b1
        clear G_0
        have R_1 := R_0.below b1
        clear R_0
        have F_1 := bthen F_0 b1
        have Z_1 : v0.heap.size ≤ w1.heap.size := b1.size
        have rKl := K_1.lt
        have rK0 := K_1.cell 0
        have rK1 := K_1.cell 1
        have rK2 := K_1.cell 2
        have rK3 := K_1.cell 3
        go_wp2_with fail
        refine (C2.out w1 (HP.out w1 F_1) (HQ.out w1 F_1)).mono ?_
        rintro e w2 ⟨rfl, b2⟩
        clear rKl rK0 rK1 rK2 rK3
        have K_2 := K_1.below b2
        clear K_1
        have G_2 := G_1.below b2
        clear G_1
        have R_2 := R_1.below b2
        clear R_1
        have F_2 := bthen F_1 b2
        have Z_2 : v0.heap.size ≤ w2.heap.size := Nat.le_trans Z_1 b2.size
        have e3 := specValOk_any i0 a1 a2 a3 a4 w2
        rw [HB.out] at e3
        have rGl := G_2.lt
        have rG0 := G_2.cell 0
        have rG1 := G_2.cell 1
        have rG2 := G_2.cell 2
        have rG3 := G_2.cell 3
        have rG4 := G_2.cell 4
        have rKl := K_2.lt
        have rK0 := K_2.cell 0
        have rK1 := K_2.cell 1
        have rK2 := K_2.cell 2
        have rK3 := K_2.cell 3
        go_wp2_with fail
        refine (e3).mono ?_
        rintro e w3 ⟨rfl, b3⟩
        clear rGl rG0 rG1 rG2 rG3 rG4
        clear rKl rK0 rK1 rK2 rK3
        have K_3 := K_2.below b3
        clear K_2
        have G_3 := G_2.below b3
        clear G_2
        have R_3 := R_2.below b3
        clear R_2
        have F_3 := bthen F_2 b3
        have Z_3 : v0.heap.size ≤ w3.heap.size := Nat.le_trans Z_2 b3.size
        clear e3
        have rKl := K_3.lt
        have rK0 := K_3.cell 0
        have rK1 := K_3.cell 1
        have rK2 := K_3.cell 2
        have rK3 := K_3.cell 3
        have rGl := G_3.lt
        have rG0 := G_3.cell 0
        have rG1 := G_3.cell 1
        have rG2 := G_3.cell 2
        have rG3 := G_3.cell 3
        have rG4 := G_3.cell 4
        go_wp2_with fail
        refine (l13Copy_any (some ⟨bw, ow, none⟩) n c B m d i0 t0 (WT wl) (GT gl) w3 (HP.out w3 F_3) (HQ.out w3 F_3) (by omega) (by omega)).mono ?_
        rintro e w4 ⟨A', c', B', d', rfl, RA, RB, hne, b4⟩
        clear rKl rK0 rK1 rK2 rK3
        clear rGl rG0 rG1 rG2 rG3 rG4
        have K_4 := K_3.below b4
        clear K_3
        have G_4 := G_3.below b4
        clear G_3
        have R_4 := R_3.below b4
        clear R_3
        have F_4 := bthen F_3 b4
        have Z_4 : v0.heap.size ≤ w4.heap.size := Nat.le_trans Z_3 b4.size
        have RA2 := RA.mono (show v0.heap.size ≤ w3.heap.size from Z_3)
        have RB2 := RB.mono (show v0.heap.size ≤ w3.heap.size from Z_3)
        have hap : ∀ a b, some A' = some a → some B' = some b → a.block ≠ b.block := fun a b ha hb => by injection ha with ha; injection hb with hb; subst ha; subst hb; exact hne
        have hz0 := F_0.size
        have hA : ∀ a, ((some A') : Option Addr) = some a → a.block ≠ w.heap.size + 1 + 1 := fun a ha => by have := RA2.ge a ha; omega
        have hB : ∀ a, ((some B') : Option Addr) = some a → a.block ≠ w.heap.size + 1 + 1 := fun a ha => by have := RB2.ge a ha; omega
        have hle : w.heap.size ≤ v0.heap.size := by omega
        have hF := F_4
        have HX := Lib.hid (And.intro hA (And.intro hB (And.intro hle hF)))
        clear hA hB hle hF
        have HPX := Lib.hid RA2
        have HQX := Lib.hid RB2
        have HAX := Lib.hid hap
        have rRl := R_4.lt
        have rR0 := R_4.cell 0
        have rR1 := R_4.cell 1
        have rR2 := R_4.cell 2
        have rR3 := R_4.cell 3
        have rRz0 := R_4.frozen 0
        have rRz1 := R_4.frozen 1
        have rRz2 := R_4.frozen 2
        have rRz3 := R_4.frozen 3
        go_wp2
        refine bodyPost_ret (v := .agg #[.int .i64 i0, .slice (some A') n c', .slice (some B') m d', .int .i64 t0]) (by simp [results, Try.results38, go_sem, *]) rfl ⟨_, _, _, _, rfl, ?_, ?_, HAX.out, ?_⟩
        · exact (four_sets HPX.out HX.out.1 _ _ _ _).mono HX.out.2.2.1
        · exact (four_sets HQX.out HX.out.2.1 _ _ _ _).mono HX.out.2.2.1
        · exact four_below HX.out.2.2.2 (Nat.le_succ_of_le (Nat.le_succ _)) _ _ _ _
      rw [hs1] at hq
      subst hq
      by_cases hk4 : k = 4
      rotate_left
      · skip
        rw [heardR_no hb (show valFit i0 wl gl t0 i0 ((m : Int) + 1) a2 a3 a4 = false by unfold valFit; rw [hkw, decide_eq_false hk4]; simp)]
        clear hb
        show Calls _ _ _ w (RetHeard w w.heap.size i0 t0 wl.length (WT wl) gl.length (GT gl))
        rw [hl, hr]
        have HK4 := Lib.hid hk4
        clear hk4
        go_enter Try.func38, Try.ntmps38
        go_wp2_with fail
        obtain ⟨v0, hv⟩ : ∃ x : World, x = (((w.alloc (.cells #[.int .i64 i0, .slice (some ⟨bw, ow, none⟩) n c, .slice B m d, .int .i64 t0] 31)).alloc (.cells #[.int .i64 i0, .int .i64 ((m : Int) + 1), .int .i64 a2, .int .i64 a3, .int .i64 a4] 51)).alloc (.cells #[.int .i64 0, .slice none 0 0, .slice none 0 0, .int .i64 0] 31)) := ⟨_, rfl⟩
        rw [← hv]
        have F_0 : Below w.heap.size w v0 := by rw [hv]; (repeat' (first | (with_reducible exact Below.refl _ _) | (with_reducible assumption) | (with_reducible refine Below.alloc ?_ ?_ _) | (with_reducible refine Below.drew ?_) | (with_reducible refine Below.setCell ?_ ?_ _) | (with_reducible refine bstep (by assumption) ?_ ?_) | (with_reducible exact Nat.le_refl _) | omega | (simp [*]; done) | (simp [*]; omega)))
        have K_0 : Blk v0 w.heap.size 31 #[.int .i64 i0, .slice (some ⟨bw, ow, none⟩) n c, .slice B m d, .int .i64 t0] := by rw [hv]; exact ((Blk.new_at _ _ _ _ rfl).alloc _).alloc _
        have G_0 : Blk v0 (w.heap.size + 1) 51 #[.int .i64 i0, .int .i64 ((m : Int) + 1), .int .i64 a2, .int .i64 a3, .int .i64 a4] := by rw [hv]; exact (Blk.new_at _ _ _ _ (by simp)).alloc _
        have R_0 : Blk v0 (w.heap.size + 1 + 1) 31 #[.int .i64 0, .slice none 0 0, .slice none 0 0, .int .i64 0] := by rw [hv]; exact Blk.new_at _ _ _ _ (by simp)
        clear hv
        have R_v0 := R_0.lt
        refine (C1.out v0 (HP.out v0 F_0) (HQ.out v0 F_0)).mono ?_
        rintro e w1 ⟨rfl, b1⟩
        have K_1 := K_0.below b1
        clear K_0
        have G_1 := G_0.below b1
        clear G_0
        have R_1 := R_0.below b1
        clear R_0
        have F_1 := bthen F_0 b1
        have Z_1 : v0.heap.size ≤ w1.heap.size := b1.size
        have rKl := K_1.lt
        have rK0 := K_1.cell 0
        have rK1 := K_1.cell 1
        have rK2 := K_1.cell 2
        have rK3 := K_1.cell 3
        go_wp2_with fail
        refine (C2.out w1 (HP.out w1 F_1) (HQ.out w1 F_1)).mono ?_
        rintro e w2 ⟨rfl, b2⟩
        clear rKl rK0 rK1 rK2 rK3
        have K_2 := K_1.below b2
        clear K_1
        have G_2 := G_1.below b2
        clear G_1
        have R_2 := R_1.below b2
        clear R_1
        have F_2 := bthen F_1 b2
        have Z_2 : v0.heap.size ≤ w2.heap.size := Nat.le_trans Z_1 b2.size
        have e3 := specValOk_any i0 ((m : Int) + 1) a2 a3 a4 w2
        rw [HB.out] at e3
        have rGl := G_2.lt
        have rG0 := G_2.cell 0
        have rG1 := G_2.cell 1
        have rG2 := G_2.cell 2
        have rG3 := G_2.cell 3
        have rG4 := G_2.cell 4
        have rKl := K_2.lt
        have rK0 := K_2.cell 0
        have rK1 := K_2.cell 1
        have rK2 := K_2.cell 2
        have rK3 := K_2.cell 3
        go_wp2_with fail
        refine (e3).mono ?_
        rintro e w3 ⟨rfl, b3⟩
        clear rGl rG0 rG1 rG2 rG3 rG4
        clear rKl rK0 rK1 rK2 rK3
        have K_3 := K_2.below b3
        clear K_2
        have G_3 := G_2.below b3
        clear G_2
        have R_3 := R_2.below b3
        clear R_2
        have F_3 := bthen F_2 b3
        have Z_3 : v0.heap.size ≤ w3.heap.size := Nat.le_trans Z_2 b3.size
        clear e3
        have hk4 := HK4.out
        have hk5 : (k == 4) = false := by rw [beqI]; exact decide_eq_false hk4
        have hk0 : w3.cell? ⟨bw, ow + m * 7, none⟩ = some (.int .i64 k) := (F_3.cell (p := ⟨bw, ow + m * 7, none⟩) hbw).trans HK.out
        have hbl := Nat.lt_of_lt_of_le hbw F_3.size
        have rKl := K_3.lt
        have rK0 := K_3.cell 0
        have rK1 := K_3.cell 1
        have rK2 := K_3.cell 2
        have rK3 := K_3.cell 3
        have rGl := G_3.lt
        have rG0 := G_3.cell 0
        have rG1 := G_3.cell 1
        have rG2 := G_3.cell 2
        have rG3 := G_3.cell 3
        have rG4 := G_3.cell 4
        go_wp2_with fail
        refine (l13Copy_any (some ⟨bw, ow, none⟩) n c B m d i0 t0 (WT wl) (GT gl) w3 (HP.out w3 F_3) (HQ.out w3 F_3) (by omega) (by omega)).mono ?_
        rintro e w4 ⟨A', c', B', d', rfl, RA, RB, hne, b4⟩
        clear rKl rK0 rK1 rK2 rK3
        clear rGl rG0 rG1 rG2 rG3 rG4
        have K_4 := K_3.below b4
        clear K_3
        have G_4 := G_3.below b4
        clear G_3
        have R_4 := R_3.below b4
        clear R_3
        have F_4 := bthen F_3 b4
        have Z_4 : v0.heap.size ≤ w4.heap.size := Nat.le_trans Z_3 b4.size
        have RA2 := RA.mono (show v0.heap.size ≤ w3.heap.size from Z_3)
        have RB2 := RB.mono (show v0.heap.size ≤ w3.heap.size from Z_3)
        have hap : ∀ a b, some A' = some a → some B' = some b → a.block ≠ b.block := fun a b ha hb => by injection ha with ha; injection hb with hb; subst ha; subst hb; exact hne
        have hz0 := F_0.size
        have hA : ∀ a, ((some A') : Option Addr) = some a → a.block ≠ w.heap.size + 1 + 1 := fun a ha => by have := RA2.ge a ha; omega
        have hB : ∀ a, ((some B') : Option Addr) = some a → a.block ≠ w.heap.size + 1 + 1 := fun a ha => by have := RB2.ge a ha; omega
        have hle : w.heap.size ≤ v0.heap.size := by omega
        have hF := F_4
        have HX := Lib.hid (And.intro hA (And.intro hB (And.intro hle hF)))
        clear hA hB hle hF
        have HPX := Lib.hid RA2
        have HQX := Lib.hid RB2
        have HAX := Lib.hid hap
        have rRl := R_4.lt
        have rR0 := R_4.cell 0
        have rR1 := R_4.cell 1
        have rR2 := R_4.cell 2
        have rR3 := R_4.cell 3
        have rRz0 := R_4.frozen 0
        have rRz1 := R_4.frozen 1
        have rRz2 := R_4.frozen 2
        have rRz3 := R_4.frozen 3
        go_wp2
        refine bodyPost_ret (v := .agg #[.int .i64 i0, .slice (some A') n c', .slice (some B') m d', .int .i64 t0]) (by simp [results, Try.results38, go_sem, *]) rfl ⟨_, _, _, _, rfl, ?_, ?_, HAX.out, ?_⟩
        · exact (four_sets HPX.out HX.out.1 _ _ _ _).mono HX.out.2.2.1
        · exact (four_sets HQX.out HX.out.2.1 _ _ _ _).mono HX.out.2.2.1
        · exact four_below HX.out.2.2.2 (Nat.le_succ_of_le (Nat.le_succ _)) _ _ _ _
      by_cases hx : t0 ≤ a2
      rotate_left
      · skip
        rw [heardR_no hb (show valFit i0 wl gl t0 i0 ((m : Int) + 1) a2 a3 a4 = false by unfold valFit; rw [decide_eq_false hx]; simp)]
        clear hb
        show Calls _ _ _ w (RetHeard w w.heap.size i0 t0 wl.length (WT wl) gl.length (GT gl))
        rw [hl, hr]
        have HK4 := Lib.hid hk4
        clear hk4
        have hx2 : a2 < t0 := by omega
        clear hx
        go_enter Try.func38, Try.ntmps38
        go_wp2_with fail
        obtain ⟨v0, hv⟩ : ∃ x : World, x = (((w.alloc (.cells #[.int .i64 i0, .slice (some ⟨bw, ow, none⟩) n c, .slice B m d, .int .i64 t0] 31)).alloc (.cells #[.int .i64 i0, .int .i64 ((m : Int) + 1), .int .i64 a2, .int .i64 a3, .int .i64 a4] 51)).alloc (.cells #[.int .i64 0, .slice none 0 0, .slice none 0 0, .int .i64 0] 31)) := ⟨_, rfl⟩
        rw [← hv]
        have F_0 : Below w.heap.size w v0 := by rw [hv]; (repeat' (first | (with_reducible exact Below.refl _ _) | (with_reducible assumption) | (with_reducible refine Below.alloc ?_ ?_ _) | (with_reducible refine Below.drew ?_) | (with_reducible refine Below.setCell ?_ ?_ _) | (with_reducible refine bstep (by assumption) ?_ ?_) | (with_reducible exact Nat.le_refl _) | omega | (simp [*]; done) | (simp [*]; omega)))
        have K_0 : Blk v0 w.heap.size 31 #[.int .i64 i0, .slice (some ⟨bw, ow, none⟩) n c, .slice B m d, .int .i64 t0] := by rw [hv]; exact ((Blk.new_at _ _ _ _ rfl).alloc _).alloc _
        have G_0 : Blk v0 (w.heap.size + 1) 51 #[.int .i64 i0, .int .i64 ((m : Int) + 1), .int .i64 a2, .int .i64 a3, .int .i64 a4] := by rw [hv]; exact (Blk.new_at _ _ _ _ (by simp)).alloc _
        have R_0 : Blk v0 (w.heap.size + 1 + 1) 31 #[.int .i64 0, .slice none 0 0, .slice none 0 0, .int .i64 0] := by rw [hv]; exact Blk.new_at _ _ _ _ (by simp)
        clear hv
        have R_v0 := R_0.lt
        refine (C1.out v0 (HP.out v0 F_0) (HQ.out v0 F_0)).mono ?_
        rintro e w1 ⟨rfl, b1⟩
        have K_1 := K_0.below b1
        clear K_0
        have G_1 := G_0.below b1
        clear G_0
        have R_1 := R_0.below b1
        clear R_0
        have F_1 := bthen F_0 b1
        have Z_1 : v0.heap.size ≤ w1.heap.size := b1.size
        have rKl := K_1.lt
        have rK0 := K_1.cell 0
        have rK1 := K_1.cell 1
        have rK2 := K_1.cell 2
        have rK3 := K_1.cell 3
        go_wp2_with fail
        refine (C2.out w1 (HP.out w1 F_1) (HQ.out w1 F_1)).mono ?_
        rintro e w2 ⟨rfl, b2⟩
        clear rKl rK0 rK1 rK2 rK3
        have K_2 := K_1.below b2
        clear K_1
        have G_2 := G_1.below b2
        clear G_1
        have R_2 := R_1.below b2
        clear R_1
        have F_2 := bthen F_1 b2
        have Z_2 : v0.heap.size ≤ w2.heap.size := Nat.le_trans Z_1 b2.size
        have e3 := specValOk_any i0 ((m : Int) + 1) a2 a3 a4 w2
        rw [HB.out] at e3
        have rGl := G_2.lt
        have rG0 := G_2.cell 0
        have rG1 := G_2.cell 1
        have rG2 := G_2.cell 2
        have rG3 := G_2.cell 3
        have rG4 := G_2.cell 4
        have rKl := K_2.lt
        have rK0 := K_2.cell 0
        have rK1 := K_2.cell 1
        have rK2 := K_2.cell 2
        have rK3 := K_2.cell 3
        go_wp2_with fail
        refine (e3).mono ?_
        rintro e w3 ⟨rfl, b3⟩
        clear rGl rG0 rG1 rG2 rG3 rG4
        clear rKl rK0 rK1 rK2 rK3
        have K_3 := K_2.below b3
        clear K_2
        have G_3 := G_2.below b3
        clear G_2
        have R_3 := R_2.below b3
        clear R_2
        have F_3 := bthen F_2 b3
        have Z_3 : v0.heap.size ≤ w3.heap.size := Nat.le_trans Z_2 b3.size
        clear e3
        have hk4 := HK4.out
        have hk5 : (k == 4) = true := by rw [hk4]; rfl
        have hk0 : w3.cell? ⟨bw, ow + m * 7, none⟩ = some (.int .i64 k) := (F_3.cell (p := ⟨bw, ow + m * 7, none⟩) hbw).trans HK.out
        have hbl := Nat.lt_of_lt_of_le hbw F_3.size
        have rKl := K_3.lt
        have rK0 := K_3.cell 0
        have rK1 := K_3.cell 1
        have rK2 := K_3.cell 2
        have rK3 := K_3.cell 3
        have rGl := G_3.lt
        have rG0 := G_3.cell 0
        have rG1 := G_3.cell 1
        have rG2 := G_3.cell 2
        have rG3 := G_3.cell 3
        have rG4 := G_3.cell 4
        go_wp2_with fail
        refine (l13Copy_any (some ⟨bw, ow, none⟩) n c B m d i0 t0 (WT wl) (GT gl) w3 (HP.out w3 F_3) (HQ.out w3 F_3) (by omega) (by omega)).mono ?_
        rintro e w4 ⟨A', c', B', d', rfl, RA, RB, hne, b4⟩
        clear rKl rK0 rK1 rK2 rK3
        clear rGl rG0 rG1 rG2 rG3 rG4
        have K_4 := K_3.below b4
        clear K_3
        have G_4 := G_3.below b4
        clear G_3
        have R_4 := R_3.below b4
        clear R_3
        have F_4 := bthen F_3 b4
        have Z_4 : v0.heap.size ≤ w4.heap.size := Nat.le_trans Z_3 b4.size
        have RA2 := RA.mono (show v0.heap.size ≤ w3.heap.size from Z_3)
        have RB2 := RB.mono (show v0.heap.size ≤ w3.heap.size from Z_3)
        have hap : ∀ a b, some A' = some a → some B' = some b → a.block ≠ b.block := fun a b ha hb => by injection ha with ha; injection hb with hb; subst ha; subst hb; exact hne
        have hz0 := F_0.size
        have hA : ∀ a, ((some A') : Option Addr) = some a → a.block ≠ w.heap.size + 1 + 1 := fun a ha => by have := RA2.ge a ha; omega
        have hB : ∀ a, ((some B') : Option Addr) = some a → a.block ≠ w.heap.size + 1 + 1 := fun a ha => by have := RB2.ge a ha; omega
        have hle : w.heap.size ≤ v0.heap.size := by omega
        have hF := F_4
        have HX := Lib.hid (And.intro hA (And.intro hB (And.intro hle hF)))
        clear hA hB hle hF
        have HPX := Lib.hid RA2
        have HQX := Lib.hid RB2
        have HAX := Lib.hid hap
        have rRl := R_4.lt
        have rR0 := R_4.cell 0
        have rR1 := R_4.cell 1
        have rR2 := R_4.cell 2
        have rR3 := R_4.cell 3
        have rRz0 := R_4.frozen 0
        have rRz1 := R_4.frozen 1
        have rRz2 := R_4.frozen 2
        have rRz3 := R_4.frozen 3
        go_wp2
        refine bodyPost_ret (v := .agg #[.int .i64 i0, .slice (some A') n c', .slice (some B') m d', .int .i64 t0]) (by simp [results, Try.results38, go_sem, *]) rfl ⟨_, _, _, _, rfl, ?_, ?_, HAX.out, ?_⟩
        · exact (four_sets HPX.out HX.out.1 _ _ _ _).mono HX.out.2.2.1
        · exact (four_sets HQX.out HX.out.2.1 _ _ _ _).mono HX.out.2.2.1
        · exact four_below HX.out.2.2.2 (Nat.le_succ_of_le (Nat.le_succ _)) _ _ _ _
      rw [heardR_yes hb (show valFit i0 wl gl t0 i0 ((m : Int) + 1) a2 a3 a4 = true by unfold valFit; rw [hB, decide_eq_true rfl, hs1, decide_eq_true rfl, hkw, decide_eq_true hk4, decide_eq_true hx]; rfl)]
      clear hb
      rw [hs1]
      show Calls _ _ _ w (RetHeard w w.heap.size i0 a2 wl.length (WT wl) (gl ++ [(⟨(m : Int) + 1, a2, a3, a4⟩ : Gt)]).length (GT (gl ++ [⟨(m : Int) + 1, a2, a3, a4⟩])))
      rw [List.length_append, hl, hr]
      have HK4 := Lib.hid hk4
      clear hk4
      have hx2 : ¬ a2 < t0 := by omega
      clear hx
      go_enter Try.func38, Try.ntmps38
      go_wp2_with fail
      obtain ⟨v0, hv⟩ : ∃ x : World, x = (((w.alloc (.cells #[.int .i64 i0, .slice (some ⟨bw, ow, none⟩) n c, .slice B m d, .int .i64 t0] 31)).alloc (.cells #[.int .i64 i0, .int .i64 ((m : Int) + 1), .int .i64 a2, .int .i64 a3, .int .i64 a4] 51)).alloc (.cells #[.int .i64 0, .slice none 0 0, .slice none 0 0, .int .i64 0] 31)) := ⟨_, rfl⟩
      rw [← hv]
      have F_0 : Below w.heap.size w v0 := by rw [hv]; (repeat' (first | (with_reducible exact Below.refl _ _) | (with_reducible assumption) | (with_reducible refine Below.alloc ?_ ?_ _) | (with_reducible refine Below.drew ?_) | (with_reducible refine Below.setCell ?_ ?_ _) | (with_reducible refine bstep (by assumption) ?_ ?_) | (with_reducible exact Nat.le_refl _) | omega | (simp [*]; done) | (simp [*]; omega)))
      have K_0 : Blk v0 w.heap.size 31 #[.int .i64 i0, .slice (some ⟨bw, ow, none⟩) n c, .slice B m d, .int .i64 t0] := by rw [hv]; exact ((Blk.new_at _ _ _ _ rfl).alloc _).alloc _
      have G_0 : Blk v0 (w.heap.size + 1) 51 #[.int .i64 i0, .int .i64 ((m : Int) + 1), .int .i64 a2, .int .i64 a3, .int .i64 a4] := by rw [hv]; exact (Blk.new_at _ _ _ _ (by simp)).alloc _
      have R_0 : Blk v0 (w.heap.size + 1 + 1) 31 #[.int .i64 0, .slice none 0 0, .slice none 0 0, .int .i64 0] := by rw [hv]; exact Blk.new_at _ _ _ _ (by simp)
      clear hv
      have R_v0 := R_0.lt
      refine (C1.out v0 (HP.out v0 F_0) (HQ.out v0 F_0)).mono ?_
      rintro e w1 ⟨rfl, b1⟩
      have K_1 := K_0.below b1
      clear K_0
      have G_1 := G_0.below b1
      clear G_0
      have R_1 := R_0.below b1
      clear R_0
      have F_1 := bthen F_0 b1
      have Z_1 : v0.heap.size ≤ w1.heap.size := b1.size
      have rKl := K_1.lt
      have rK0 := K_1.cell 0
      have rK1 := K_1.cell 1
      have rK2 := K_1.cell 2
      have rK3 := K_1.cell 3
      go_wp2_with fail
      refine (C2.out w1 (HP.out w1 F_1) (HQ.out w1 F_1)).mono ?_
      rintro e w2 ⟨rfl, b2⟩
      clear rKl rK0 rK1 rK2 rK3
      have K_2 := K_1.below b2
      clear K_1
      have G_2 := G_1.below b2
      clear G_1
      have R_2 := R_1.below b2
      clear R_1
      have F_2 := bthen F_1 b2
      have Z_2 : v0.heap.size ≤ w2.heap.size := Nat.le_trans Z_1 b2.size
      have e3 := specValOk_any i0 ((m : Int) + 1) a2 a3 a4 w2
      rw [HB.out] at e3
      have rGl := G_2.lt
      have rG0 := G_2.cell 0
      have rG1 := G_2.cell 1
      have rG2 := G_2.cell 2
      have rG3 := G_2.cell 3
      have rG4 := G_2.cell 4
      have rKl := K_2.lt
      have rK0 := K_2.cell 0
      have rK1 := K_2.cell 1
      have rK2 := K_2.cell 2
      have rK3 := K_2.cell 3
      go_wp2_with fail
      refine (e3).mono ?_
      rintro e w3 ⟨rfl, b3⟩
      clear rGl rG0 rG1 rG2 rG3 rG4
      clear rKl rK0 rK1 rK2 rK3
      have K_3 := K_2.below b3
      clear K_2
      have G_3 := G_2.below b3
      clear G_2
      have R_3 := R_2.below b3
      clear R_2
      have F_3 := bthen F_2 b3
      have Z_3 : v0.heap.size ≤ w3.heap.size := Nat.le_trans Z_2 b3.size
      clear e3
      have hk4 := HK4.out
      have hk5 : (k == 4) = true := by rw [hk4]; rfl
      have hk0 : w3.cell? ⟨bw, ow + m * 7, none⟩ = some (.int .i64 k) := (F_3.cell (p := ⟨bw, ow + m * 7, none⟩) hbw).trans HK.out
      have hbl := Nat.lt_of_lt_of_le hbw F_3.size
      have rKl := K_3.lt
      have rK0 := K_3.cell 0
      have rK1 := K_3.cell 1
      have rK2 := K_3.cell 2
      have rK3 := K_3.cell 3
      have rGl := G_3.lt
      have rG0 := G_3.cell 0
      have rG1 := G_3.cell 1
      have rG2 := G_3.cell 2
      have rG3 := G_3.cell 3
      have rG4 := G_3.cell 4
      go_wp2_with fail
      refine (l13Heard_any (some ⟨bw, ow, none⟩) n c B m d i0 t0 ((m : Int) + 1) a2 a3 a4 (WT wl) (GT gl) w3 (HP.out w3 F_3) (HQ.out w3 F_3) (by omega) (by omega)).mono ?_
      rintro e w4 ⟨A', c', B', d', rfl, RA, RB, hap, b4⟩
      clear rKl rK0 rK1 rK2 rK3
      clear rGl rG0 rG1 rG2 rG3 rG4
      have K_4 := K_3.below b4
      clear K_3
      have G_4 := G_3.below b4
      clear G_3
      have R_4 := R_3.below b4
      clear R_3
      have F_4 := bthen F_3 b4
      have Z_4 : v0.heap.size ≤ w4.heap.size := Nat.le_trans Z_3 b4.size
      have RA2 := RA.mono (show v0.heap.size ≤ w3.heap.size from Z_3)
      have RB2 := RB.mono (show v0.heap.size ≤ w3.heap.size from Z_3)
      rw [show GT gl ++ [(m : Int) + 1, a2, a3, a4] = GT (gl ++ [⟨(m : Int) + 1, a2, a3, a4⟩]) by rw [GT_append]; rfl] at RB2
      have hz0 := F_0.size
      have hA : ∀ a, (A' : Option Addr) = some a → a.block ≠ w.heap.size + 1 + 1 := fun a ha => by have := RA2.ge a ha; omega
      have hB : ∀ a, (B' : Option Addr) = some a → a.block ≠ w.heap.size + 1 + 1 := fun a ha => by have := RB2.ge a ha; omega
      have hle : w.heap.size ≤ v0.heap.size := by omega
      have hF := F_4
      have HX := Lib.hid (And.intro hA (And.intro hB (And.intro hle hF)))
      clear hA hB hle hF
      have HPX := Lib.hid RA2
      have HQX := Lib.hid RB2
      have HAX := Lib.hid hap
      have rRl := R_4.lt
      have rR0 := R_4.cell 0
      have rR1 := R_4.cell 1
      have rR2 := R_4.cell 2
      have rR3 := R_4.cell 3
      have rRz0 := R_4.frozen 0
      have rRz1 := R_4.frozen 1
      have rRz2 := R_4.frozen 2
      have rRz3 := R_4.frozen 3
      go_wp2
      refine bodyPost_ret (v := .agg #[.int .i64 i0, .slice A' n c', .slice B' (m + 1) d', .int .i64 a2]) (by simp [results, Try.results38, go_sem, *]) rfl ⟨_, _, _, _, rfl, ?_, ?_, HAX.out, ?_⟩
      · exact (four_sets HPX.out HX.out.1 _ _ _ _).mono HX.out.2.2.1
      · exact (four_sets HQX.out HX.out.2.1 _ _ _ _).mono HX.out.2.2.1
      · exact four_below HX.out.2.2.2 (Nat.le_succ_of_le (Nat.le_succ _)) _ _ _ _
end Go.Proofs.Ytbcpcddmekoaeaa

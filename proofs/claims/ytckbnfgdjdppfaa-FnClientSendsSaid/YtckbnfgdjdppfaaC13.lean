/- Clients: the program's HeardAck. -/
import Derived.Test.YtckbnfgdjdppfaaC11
namespace Go.Proofs.Ytckbnfgdjdppfaa
set_option linter.unusedSimpArgs false
set_option linter.unusedVariables false
attribute [local go_sem] n_lt2 n_lt3 n_lt4 n_le2 n_le3
open Go.RowKit
attribute [local go_sem] Ext.cell Ext.frozen
set_option maxRecDepth 100000 in
set_option maxHeartbeats 8000000 in
theorem heardAck_any (A : Option Addr) (n c : Nat) (B : Option Addr) (m d : Nat) (i0 t0 : Int) (wl : List Wt) (gl : List Gt) (a0 a1 a2 a3 : Int) (w : World) (hP : Sl w 7 A n (WT wl)) (hQ : Sl w 4 B m (GT gl)) (hl : wl.length = n) (hr : gl.length = m) (hn : n ≤ maxLen) (hm : m ≤ maxLen) :
    Calls Try.prog 16 #[.agg #[.int .i64 i0, .slice A n c, .slice B m d, .int .i64 t0], .agg #[.int .i64 a0, .int .i64 a1, .int .i64 a2, .int .i64 a3]] w (RetR w (heardR i0 wl gl t0 (ackFit i0 wl gl t0 a0 a1 a2 a3) ⟨pendS wl gl, a2, 0, 0⟩)) := by
  have HP := Lib.hid (fun (w' : World) (hB : Below w.heap.size w w') => hP.below hB)
  have HQ := Lib.hid (fun (w' : World) (hB : Below w.heap.size w w') => hQ.below hB)
  have c1 := fun (v : World) (hv : Sl v 7 A n (WT wl)) (hu : Sl v 4 B m (GT gl)) => clientOk_any A n c B m d i0 t0 wl gl v hv hu hl hr hn hm
  clear hP hQ
  cases hb : clientB i0 wl gl t0 with
  | false =>
    rw [heardR_nil hb]
    rw [hb] at c1
    have C1 := Lib.hid c1
    clear c1
    go_enter Try.func16, Try.ntmps16
    go_wp2_with fail
    obtain ⟨v0, hv⟩ : ∃ x : World, x = (((w.alloc (.cells #[.int .i64 i0, .slice A n c, .slice B m d, .int .i64 t0] 32)).alloc (.cells #[.int .i64 a0, .int .i64 a1, .int .i64 a2, .int .i64 a3] 59)).alloc (.cells #[.int .i64 0, .slice none 0 0, .slice none 0 0, .int .i64 0] 32)) := ⟨_, rfl⟩
    rw [← hv]
    have F_0 : Below w.heap.size w v0 := by rw [hv]; (repeat' (first | (with_reducible exact Below.refl _ _) | (with_reducible assumption) | (with_reducible refine Below.alloc ?_ ?_ _) | (with_reducible refine Below.drew ?_) | (with_reducible refine Below.setCell ?_ ?_ _) | (with_reducible refine bstep (by assumption) ?_ ?_) | (with_reducible exact Nat.le_refl _) | omega | (simp [*]; done) | (simp [*]; omega)))
    have K_0 : Blk v0 w.heap.size 32 #[.int .i64 i0, .slice A n c, .slice B m d, .int .i64 t0] := by rw [hv]; exact ((Blk.new_at _ _ _ _ rfl).alloc _).alloc _
    have G_0 : Blk v0 (w.heap.size + 1) 59 #[.int .i64 a0, .int .i64 a1, .int .i64 a2, .int .i64 a3] := by rw [hv]; exact (Blk.new_at _ _ _ _ (by simp)).alloc _
    have R_0 : Blk v0 (w.heap.size + 1 + 1) 32 #[.int .i64 0, .slice none 0 0, .slice none 0 0, .int .i64 0] := by rw [hv]; exact Blk.new_at _ _ _ _ (by simp)
    clear hv
    have R_v0 := R_0.lt
    refine (C1.out v0 (HP.out v0 F_0) (HQ.out v0 F_0)).mono ?_
    rintro e w1 ⟨rfl, b1⟩
    have K_1 := K_0.below b1
    clear K_0
    have G_1 := G_0.below b1
    clear G_0
    have R_1 := R_0.below b1
    clear R_0
    have F_1 := bthen F_0 b1
    have rRl := R_1.lt
    have rR0 := R_1.cell 0
    have rR1 := R_1.cell 1
    have rR2 := R_1.cell 2
    have rR3 := R_1.cell 3
    have rRz0 := R_1.frozen 0
    have rRz1 := R_1.frozen 1
    have rRz2 := R_1.frozen 2
    have rRz3 := R_1.frozen 3
    go_wp2
    refine bodyPost_ret (v := .agg #[.int .i64 0, .slice none 0 0, .slice none 0 0, .int .i64 0]) (by simp [results, Try.results16, go_sem, *]) rfl (retR_nil (four_below F_1 (Nat.le_succ_of_le (Nat.le_succ _)) _ _ _ _))
  | true =>
    have hle := clientB_le hb
    rw [hl, hr] at hle
    rw [hb] at c1
    have C1 := Lib.hid c1
    clear c1
    have HLE := Lib.hid hle.2
    obtain ⟨s, hs⟩ : ∃ x, pendS wl gl = x := ⟨_, rfl⟩
    obtain ⟨⟨k, o, p1, p2, p3, p4, p5⟩, hw⟩ : ∃ x, pendW wl gl = x := ⟨_, rfl⟩
    have hkw : (pendW wl gl).k = k := by rw [hw]
    have hs1 := hs
    have HS := Lib.hid hs
    have HW := Lib.hid hw
    clear hs hw
    cases hB : ackB a0 a1 a2 a3 with
    | false =>
      have HB := Lib.hid hB
      rw [heardR_no hb (show ackFit i0 wl gl t0 a0 a1 a2 a3 = false by unfold ackFit; rw [hB]; rfl)]
      clear hb
      show Calls _ _ _ w (RetHeard w w.heap.size i0 t0 wl.length (WT wl) gl.length (GT gl))
      rw [hl, hr]
      go_enter Try.func16, Try.ntmps16
      go_wp2_with fail
      obtain ⟨v0, hv⟩ : ∃ x : World, x = (((w.alloc (.cells #[.int .i64 i0, .slice A n c, .slice B m d, .int .i64 t0] 32)).alloc (.cells #[.int .i64 a0, .int .i64 a1, .int .i64 a2, .int .i64 a3] 59)).alloc (.cells #[.int .i64 0, .slice none 0 0, .slice none 0 0, .int .i64 0] 32)) := ⟨_, rfl⟩
      rw [← hv]
      have F_0 : Below w.heap.size w v0 := by rw [hv]; (repeat' (first | (with_reducible exact Below.refl _ _) | (with_reducible assumption) | (with_reducible refine Below.alloc ?_ ?_ _) | (with_reducible refine Below.drew ?_) | (with_reducible refine Below.setCell ?_ ?_ _) | (with_reducible refine bstep (by assumption) ?_ ?_) | (with_reducible exact Nat.le_refl _) | omega | (simp [*]; done) | (simp [*]; omega)))
      have K_0 : Blk v0 w.heap.size 32 #[.int .i64 i0, .slice A n c, .slice B m d, .int .i64 t0] := by rw [hv]; exact ((Blk.new_at _ _ _ _ rfl).alloc _).alloc _
      have G_0 : Blk v0 (w.heap.size + 1) 59 #[.int .i64 a0, .int .i64 a1, .int .i64 a2, .int .i64 a3] := by rw [hv]; exact (Blk.new_at _ _ _ _ (by simp)).alloc _
      have R_0 : Blk v0 (w.heap.size + 1 + 1) 32 #[.int .i64 0, .slice none 0 0, .slice none 0 0, .int .i64 0] := by rw [hv]; exact Blk.new_at _ _ _ _ (by simp)
      clear hv
      have R_v0 := R_0.lt
      refine (C1.out v0 (HP.out v0 F_0) (HQ.out v0 F_0)).mono ?_
      rintro e w1 ⟨rfl, b1⟩
      have K_1 := K_0.below b1
      clear K_0
      have G_1 := G_0.below b1
      clear G_0
      have R_1 := R_0.below b1
      clear R_0
      have F_1 := bthen F_0 b1
      have rKl := K_1.lt
      have rK0 := K_1.cell 0
      have rK1 := K_1.cell 1
      have rK2 := K_1.cell 2
      have rK3 := K_1.cell 3
      go_wp2_with fail
      refine (copyClient_any A n c B m d i0 t0 (WT wl) (GT gl) w1 (HP.out w1 F_1) (HQ.out w1 F_1) (by omega) (by omega)).mono ?_
      rintro e w2 ⟨A', c', B', d', rfl, RA, RB, hne, b2⟩
      clear rKl rK0 rK1 rK2 rK3
      have K_2 := K_1.below b2
      clear K_1
      have G_2 := G_1.below b2
      clear G_1
      have R_2 := R_1.below b2
      clear R_1
      have F_2 := bthen F_1 b2
      have RA_2 := RA.mono (show v0.heap.size ≤ w1.heap.size from b1.size)
      have RB_2 := RB.mono (show v0.heap.size ≤ w1.heap.size from b1.size)
      clear RA RB
      have rKl := K_2.lt
      have rK0 := K_2.cell 0
      have rK1 := K_2.cell 1
      have rK2 := K_2.cell 2
      have rK3 := K_2.cell 3
      go_wp2_with fail
      refine calls_named ?_
      rintro w3 hw3
      clear rKl rK0 rK1 rK2 rK3
      have b3 : Below w2.heap.size w2 w3 := by rw [hw3]; exact (Below.refl _ _).alloc (Nat.le_refl _) _
      have N_3 : Blk w3 w2.heap.size 32 #[.int .i64 i0, .slice (some A') n c', .slice (some B') m d', .int .i64 t0] := by rw [hw3]; exact Blk.new_at _ _ _ _ rfl
      clear hw3
      have K_3 := K_2.below b3
      clear K_2
      have G_3 := G_2.below b3
      clear G_2
      have R_3 := R_2.below b3
      clear R_2
      have RA_3 := RA_2.below b3
      clear RA_2
      have RB_3 := RB_2.below b3
      clear RB_2
      have F_3 := bthen F_2 b3
      have O_3 := N_3
      clear N_3
      have c4 := pending_any A n c B m d i0 t0 wl gl w3 (HP.out w3 F_3) (HQ.out w3 F_3) hl hr hn hm HLE.out
      rw [HW.out, HS.out] at c4
      refine (c4).mono ?_
      rintro e w4 ⟨rfl, b4⟩
      have K_4 := K_3.below b4
      clear K_3
      have G_4 := G_3.below b4
      clear G_3
      have R_4 := R_3.below b4
      clear R_3
      have O_4 := O_3.below b4
      clear O_3
      have RA_4 := RA_3.below b4
      clear RA_3
      have RB_4 := RB_3.below b4
      clear RB_3
      have F_4 := bthen F_3 b4
      clear c4
      have rGl := G_4.lt
      have rG0 := G_4.cell 0
      have rG1 := G_4.cell 1
      have rG2 := G_4.cell 2
      have rG3 := G_4.cell 3
      go_wp2_with fail
      refine calls_named ?_
      rintro w5 hw5
      clear rGl rG0 rG1 rG2 rG3
      have b5 : Below w4.heap.size w4 w5 := by rw [hw5]; exact (Below.refl _ _).alloc (Nat.le_refl _) _
      have N_5 : Blk w5 w4.heap.size 45 #[.int .i64 k, .int .i64 o, .int .i64 p1, .int .i64 p2, .int .i64 p3, .int .i64 p4, .int .i64 p5] := by rw [hw5]; exact Blk.new_at _ _ _ _ rfl
      clear hw5
      have K_5 := K_4.below b5
      clear K_4
      have G_5 := G_4.below b5
      clear G_4
      have R_5 := R_4.below b5
      clear R_4
      have O_5 := O_4.below b5
      clear O_4
      have RA_5 := RA_4.below b5
      clear RA_4
      have RB_5 := RB_4.below b5
      clear RB_4
      have F_5 := bthen F_4 b5
      have W_5 := N_5
      clear N_5
      have e5 := ackOk_any a0 a1 a2 a3 w5
      rw [HB.out] at e5
      refine (e5).mono ?_
      rintro e w6 ⟨rfl, b6⟩
      have K_6 := K_5.below b6
      clear K_5
      have G_6 := G_5.below b6
      clear G_5
      have R_6 := R_5.below b6
      clear R_5
      have O_6 := O_5.below b6
      clear O_5
      have W_6 := W_5.below b6
      clear W_5
      have RA_6 := RA_5.below b6
      clear RA_5
      have RB_6 := RB_5.below b6
      clear RB_5
      have F_6 := bthen F_5 b6
      clear e5
      have hap : ∀ a b, some A' = some a → some B' = some b → a.block ≠ b.block := fun a b ha hb => by injection ha with ha; injection hb with hb; subst ha; subst hb; exact hne
      have rKl := K_6.lt
      have rK0 := K_6.cell 0
      have rK1 := K_6.cell 1
      have rK2 := K_6.cell 2
      have rK3 := K_6.cell 3
      have rGl := G_6.lt
      have rG0 := G_6.cell 0
      have rG1 := G_6.cell 1
      have rG2 := G_6.cell 2
      have rG3 := G_6.cell 3
      have rOl := O_6.lt
      have rO0 := O_6.cell 0
      have rO1 := O_6.cell 1
      have rO2 := O_6.cell 2
      have rO3 := O_6.cell 3
      have rWl := W_6.lt
      have rW0 := W_6.cell 0
      have rW1 := W_6.cell 1
      have rW2 := W_6.cell 2
      have rW3 := W_6.cell 3
      have rW4 := W_6.cell 4
      have rW5 := W_6.cell 5
      have rW6 := W_6.cell 6
      have hz0 := F_0.size
      have hA : ∀ a, ((some A') : Option Addr) = some a → a.block ≠ w.heap.size + 1 + 1 := fun a ha => by have := RA_6.ge a ha; omega
      have hB : ∀ a, ((some B') : Option Addr) = some a → a.block ≠ w.heap.size + 1 + 1 := fun a ha => by have := RB_6.ge a ha; omega
      have hle : w.heap.size ≤ v0.heap.size := by omega
      have hF := F_6
      have HX := Lib.hid (And.intro hA (And.intro hB (And.intro hle hF)))
      clear hA hB hle hF
      have HPX := Lib.hid RA_6
      have HQX := Lib.hid RB_6
      have HAX := Lib.hid hap
      have rRl := R_6.lt
      have rR0 := R_6.cell 0
      have rR1 := R_6.cell 1
      have rR2 := R_6.cell 2
      have rR3 := R_6.cell 3
      have rRz0 := R_6.frozen 0
      have rRz1 := R_6.frozen 1
      have rRz2 := R_6.frozen 2
      have rRz3 := R_6.frozen 3
      go_wp2
      refine bodyPost_ret (v := .agg #[.int .i64 i0, .slice (some A') n c', .slice (some B') m d', .int .i64 t0]) (by simp [results, Try.results16, go_sem, *]) rfl ⟨_, _, _, _, rfl, ?_, ?_, HAX.out, ?_⟩
      · exact (four_sets HPX.out HX.out.1 _ _ _ _).mono HX.out.2.2.1
      · exact (four_sets HQX.out HX.out.2.1 _ _ _ _).mono HX.out.2.2.1
      · exact four_below HX.out.2.2.2 (Nat.le_succ_of_le (Nat.le_succ _)) _ _ _ _
    | true =>
      have HB := Lib.hid hB
      by_cases hc : i0 = a0
      rotate_left
      · skip
        rw [heardR_no hb (show ackFit i0 wl gl t0 a0 a1 a2 a3 = false by unfold ackFit; rw [decide_eq_false hc]; simp)]
        clear hb
        show Calls _ _ _ w (RetHeard w w.heap.size i0 t0 wl.length (WT wl) gl.length (GT gl))
        rw [hl, hr]
        go_enter Try.func16, Try.ntmps16
        go_wp2_with fail
        obtain ⟨v0, hv⟩ : ∃ x : World, x = (((w.alloc (.cells #[.int .i64 i0, .slice A n c, .slice B m d, .int .i64 t0] 32)).alloc (.cells #[.int .i64 a0, .int .i64 a1, .int .i64 a2, .int .i64 a3] 59)).alloc (.cells #[.int .i64 0, .slice none 0 0, .slice none 0 0, .int .i64 0] 32)) := ⟨_, rfl⟩
        rw [← hv]
        have F_0 : Below w.heap.size w v0 := by rw [hv]; (repeat' (first | (with_reducible exact Below.refl _ _) | (with_reducible assumption) | (with_reducible refine Below.alloc ?_ ?_ _) | (with_reducible refine Below.drew ?_) | (with_reducible refine Below.setCell ?_ ?_ _) | (with_reducible refine bstep (by assumption) ?_ ?_) | (with_reducible exact Nat.le_refl _) | omega | (simp [*]; done) | (simp [*]; omega)))
        have K_0 : Blk v0 w.heap.size 32 #[.int .i64 i0, .slice A n c, .slice B m d, .int .i64 t0] := by rw [hv]; exact ((Blk.new_at _ _ _ _ rfl).alloc _).alloc _
        have G_0 : Blk v0 (w.heap.size + 1) 59 #[.int .i64 a0, .int .i64 a1, .int .i64 a2, .int .i64 a3] := by rw [hv]; exact (Blk.new_at _ _ _ _ (by simp)).alloc _
        have R_0 : Blk v0 (w.heap.size + 1 + 1) 32 #[.int .i64 0, .slice none 0 0, .slice none 0 0, .int .i64 0] := by rw [hv]; exact Blk.new_at _ _ _ _ (by simp)
        clear hv
        have R_v0 := R_0.lt
        refine (C1.out v0 (HP.out v0 F_0) (HQ.out v0 F_0)).mono ?_
        rintro e w1 ⟨rfl, b1⟩
        have K_1 := K_0.below b1
        clear K_0
        have G_1 := G_0.below b1
        clear G_0
        have R_1 := R_0.below b1
        clear R_0
        have F_1 := bthen F_0 b1
        have rKl := K_1.lt
        have rK0 := K_1.cell 0
        have rK1 := K_1.cell 1
        have rK2 := K_1.cell 2
        have rK3 := K_1.cell 3
        go_wp2_with fail
        refine (copyClient_any A n c B m d i0 t0 (WT wl) (GT gl) w1 (HP.out w1 F_1) (HQ.out w1 F_1) (by omega) (by omega)).mono ?_
        rintro e w2 ⟨A', c', B', d', rfl, RA, RB, hne, b2⟩
        clear rKl rK0 rK1 rK2 rK3
        have K_2 := K_1.below b2
        clear K_1
        have G_2 := G_1.below b2
        clear G_1
        have R_2 := R_1.below b2
        clear R_1
        have F_2 := bthen F_1 b2
        have RA_2 := RA.mono (show v0.heap.size ≤ w1.heap.size from b1.size)
        have RB_2 := RB.mono (show v0.heap.size ≤ w1.heap.size from b1.size)
        clear RA RB
        have rKl := K_2.lt
        have rK0 := K_2.cell 0
        have rK1 := K_2.cell 1
        have rK2 := K_2.cell 2
        have rK3 := K_2.cell 3
        go_wp2_with fail
        refine calls_named ?_
        rintro w3 hw3
        clear rKl rK0 rK1 rK2 rK3
        have b3 : Below w2.heap.size w2 w3 := by rw [hw3]; exact (Below.refl _ _).alloc (Nat.le_refl _) _
        have N_3 : Blk w3 w2.heap.size 32 #[.int .i64 i0, .slice (some A') n c', .slice (some B') m d', .int .i64 t0] := by rw [hw3]; exact Blk.new_at _ _ _ _ rfl
        clear hw3
        have K_3 := K_2.below b3
        clear K_2
        have G_3 := G_2.below b3
        clear G_2
        have R_3 := R_2.below b3
        clear R_2
        have RA_3 := RA_2.below b3
        clear RA_2
        have RB_3 := RB_2.below b3
        clear RB_2
        have F_3 := bthen F_2 b3
        have O_3 := N_3
        clear N_3
        have c4 := pending_any A n c B m d i0 t0 wl gl w3 (HP.out w3 F_3) (HQ.out w3 F_3) hl hr hn hm HLE.out
        rw [HW.out, HS.out] at c4
        refine (c4).mono ?_
        rintro e w4 ⟨rfl, b4⟩
        have K_4 := K_3.below b4
        clear K_3
        have G_4 := G_3.below b4
        clear G_3
        have R_4 := R_3.below b4
        clear R_3
        have O_4 := O_3.below b4
        clear O_3
        have RA_4 := RA_3.below b4
        clear RA_3
        have RB_4 := RB_3.below b4
        clear RB_3
        have F_4 := bthen F_3 b4
        clear c4
        have rGl := G_4.lt
        have rG0 := G_4.cell 0
        have rG1 := G_4.cell 1
        have rG2 := G_4.cell 2
        have rG3 := G_4.cell 3
        go_wp2_with fail
        refine calls_named ?_
        rintro w5 hw5
        clear rGl rG0 rG1 rG2 rG3
        have b5 : Below w4.heap.size w4 w5 := by rw [hw5]; exact (Below.refl _ _).alloc (Nat.le_refl _) _
        have N_5 : Blk w5 w4.heap.size 45 #[.int .i64 k, .int .i64 o, .int .i64 p1, .int .i64 p2, .int .i64 p3, .int .i64 p4, .int .i64 p5] := by rw [hw5]; exact Blk.new_at _ _ _ _ rfl
        clear hw5
        have K_5 := K_4.below b5
        clear K_4
        have G_5 := G_4.below b5
        clear G_4
        have R_5 := R_4.below b5
        clear R_4
        have O_5 := O_4.below b5
        clear O_4
        have RA_5 := RA_4.below b5
        clear RA_4
        have RB_5 := RB_4.below b5
        clear RB_4
        have F_5 := bthen F_4 b5
        have W_5 := N_5
        clear N_5
        have e5 := ackOk_any a0 a1 a2 a3 w5
        rw [HB.out] at e5
        refine (e5).mono ?_
        rintro e w6 ⟨rfl, b6⟩
        have K_6 := K_5.below b6
        clear K_5
        have G_6 := G_5.below b6
        clear G_5
        have R_6 := R_5.below b6
        clear R_5
        have O_6 := O_5.below b6
        clear O_5
        have W_6 := W_5.below b6
        clear W_5
        have RA_6 := RA_5.below b6
        clear RA_5
        have RB_6 := RB_5.below b6
        clear RB_5
        have F_6 := bthen F_5 b6
        clear e5
        have hap : ∀ a b, some A' = some a → some B' = some b → a.block ≠ b.block := fun a b ha hb => by injection ha with ha; injection hb with hb; subst ha; subst hb; exact hne
        have rKl := K_6.lt
        have rK0 := K_6.cell 0
        have rK1 := K_6.cell 1
        have rK2 := K_6.cell 2
        have rK3 := K_6.cell 3
        have rGl := G_6.lt
        have rG0 := G_6.cell 0
        have rG1 := G_6.cell 1
        have rG2 := G_6.cell 2
        have rG3 := G_6.cell 3
        have rOl := O_6.lt
        have rO0 := O_6.cell 0
        have rO1 := O_6.cell 1
        have rO2 := O_6.cell 2
        have rO3 := O_6.cell 3
        have rWl := W_6.lt
        have rW0 := W_6.cell 0
        have rW1 := W_6.cell 1
        have rW2 := W_6.cell 2
        have rW3 := W_6.cell 3
        have rW4 := W_6.cell 4
        have rW5 := W_6.cell 5
        have rW6 := W_6.cell 6
        have hz0 := F_0.size
        have hA : ∀ a, ((some A') : Option Addr) = some a → a.block ≠ w.heap.size + 1 + 1 := fun a ha => by have := RA_6.ge a ha; omega
        have hB : ∀ a, ((some B') : Option Addr) = some a → a.block ≠ w.heap.size + 1 + 1 := fun a ha => by have := RB_6.ge a ha; omega
        have hle : w.heap.size ≤ v0.heap.size := by omega
        have hF := F_6
        have HX := Lib.hid (And.intro hA (And.intro hB (And.intro hle hF)))
        clear hA hB hle hF
        have HPX := Lib.hid RA_6
        have HQX := Lib.hid RB_6
        have HAX := Lib.hid hap
        have rRl := R_6.lt
        have rR0 := R_6.cell 0
        have rR1 := R_6.cell 1
        have rR2 := R_6.cell 2
        have rR3 := R_6.cell 3
        have rRz0 := R_6.frozen 0
        have rRz1 := R_6.frozen 1
        have rRz2 := R_6.frozen 2
        have rRz3 := R_6.frozen 3
        go_wp2
        refine bodyPost_ret (v := .agg #[.int .i64 i0, .slice (some A') n c', .slice (some B') m d', .int .i64 t0]) (by simp [results, Try.results16, go_sem, *]) rfl ⟨_, _, _, _, rfl, ?_, ?_, HAX.out, ?_⟩
        · exact (four_sets HPX.out HX.out.1 _ _ _ _).mono HX.out.2.2.1
        · exact (four_sets HQX.out HX.out.2.1 _ _ _ _).mono HX.out.2.2.1
        · exact four_below HX.out.2.2.2 (Nat.le_succ_of_le (Nat.le_succ _)) _ _ _ _
      subst hc
      by_cases hq : pendS wl gl = a1
      rotate_left
      · skip
        rw [heardR_no hb (show ackFit i0 wl gl t0 i0 a1 a2 a3 = false by unfold ackFit; rw [decide_eq_false hq]; simp)]
        clear hb
        show Calls _ _ _ w (RetHeard w w.heap.size i0 t0 wl.length (WT wl) gl.length (GT gl))
        rw [hl, hr]
        go_enter Try.func16, Try.ntmps16
        go_wp2_with fail
        obtain ⟨v0, hv⟩ : ∃ x : World, x = (((w.alloc (.cells #[.int .i64 i0, .slice A n c, .slice B m d, .int .i64 t0] 32)).alloc (.cells #[.int .i64 i0, .int .i64 a1, .int .i64 a2, .int .i64 a3] 59)).alloc (.cells #[.int .i64 0, .slice none 0 0, .slice none 0 0, .int .i64 0] 32)) := ⟨_, rfl⟩
        rw [← hv]
        have F_0 : Below w.heap.size w v0 := by rw [hv]; (repeat' (first | (with_reducible exact Below.refl _ _) | (with_reducible assumption) | (with_reducible refine Below.alloc ?_ ?_ _) | (with_reducible refine Below.drew ?_) | (with_reducible refine Below.setCell ?_ ?_ _) | (with_reducible refine bstep (by assumption) ?_ ?_) | (with_reducible exact Nat.le_refl _) | omega | (simp [*]; done) | (simp [*]; omega)))
        have K_0 : Blk v0 w.heap.size 32 #[.int .i64 i0, .slice A n c, .slice B m d, .int .i64 t0] := by rw [hv]; exact ((Blk.new_at _ _ _ _ rfl).alloc _).alloc _
        have G_0 : Blk v0 (w.heap.size + 1) 59 #[.int .i64 i0, .int .i64 a1, .int .i64 a2, .int .i64 a3] := by rw [hv]; exact (Blk.new_at _ _ _ _ (by simp)).alloc _
        have R_0 : Blk v0 (w.heap.size + 1 + 1) 32 #[.int .i64 0, .slice none 0 0, .slice none 0 0, .int .i64 0] := by rw [hv]; exact Blk.new_at _ _ _ _ (by simp)
        clear hv
        have R_v0 := R_0.lt
        refine (C1.out v0 (HP.out v0 F_0) (HQ.out v0 F_0)).mono ?_
        rintro e w1 ⟨rfl, b1⟩
        have K_1 := K_0.below b1
        clear K_0
        have G_1 := G_0.below b1
        clear G_0
        have R_1 := R_0.below b1
        clear R_0
        have F_1 := bthen F_0 b1
        have rKl := K_1.lt
        have rK0 := K_1.cell 0
        have rK1 := K_1.cell 1
        have rK2 := K_1.cell 2
        have rK3 := K_1.cell 3
        go_wp2_with fail
        refine (copyClient_any A n c B m d i0 t0 (WT wl) (GT gl) w1 (HP.out w1 F_1) (HQ.out w1 F_1) (by omega) (by omega)).mono ?_
        rintro e w2 ⟨A', c', B', d', rfl, RA, RB, hne, b2⟩
        clear rKl rK0 rK1 rK2 rK3
        have K_2 := K_1.below b2
        clear K_1
        have G_2 := G_1.below b2
        clear G_1
        have R_2 := R_1.below b2
        clear R_1
        have F_2 := bthen F_1 b2
        have RA_2 := RA.mono (show v0.heap.size ≤ w1.heap.size from b1.size)
        have RB_2 := RB.mono (show v0.heap.size ≤ w1.heap.size from b1.size)
        clear RA RB
        have rKl := K_2.lt
        have rK0 := K_2.cell 0
        have rK1 := K_2.cell 1
        have rK2 := K_2.cell 2
        have rK3 := K_2.cell 3
        go_wp2_with fail
        refine calls_named ?_
        rintro w3 hw3
        clear rKl rK0 rK1 rK2 rK3
        have b3 : Below w2.heap.size w2 w3 := by rw [hw3]; exact (Below.refl _ _).alloc (Nat.le_refl _) _
        have N_3 : Blk w3 w2.heap.size 32 #[.int .i64 i0, .slice (some A') n c', .slice (some B') m d', .int .i64 t0] := by rw [hw3]; exact Blk.new_at _ _ _ _ rfl
        clear hw3
        have K_3 := K_2.below b3
        clear K_2
        have G_3 := G_2.below b3
        clear G_2
        have R_3 := R_2.below b3
        clear R_2
        have RA_3 := RA_2.below b3
        clear RA_2
        have RB_3 := RB_2.below b3
        clear RB_2
        have F_3 := bthen F_2 b3
        have O_3 := N_3
        clear N_3
        have c4 := pending_any A n c B m d i0 t0 wl gl w3 (HP.out w3 F_3) (HQ.out w3 F_3) hl hr hn hm HLE.out
        rw [HW.out, HS.out] at c4
        refine (c4).mono ?_
        rintro e w4 ⟨rfl, b4⟩
        have K_4 := K_3.below b4
        clear K_3
        have G_4 := G_3.below b4
        clear G_3
        have R_4 := R_3.below b4
        clear R_3
        have O_4 := O_3.below b4
        clear O_3
        have RA_4 := RA_3.below b4
        clear RA_3
        have RB_4 := RB_3.below b4
        clear RB_3
        have F_4 := bthen F_3 b4
        clear c4
        have rGl := G_4.lt
        have rG0 := G_4.cell 0
        have rG1 := G_4.cell 1
        have rG2 := G_4.cell 2
        have rG3 := G_4.cell 3
        go_wp2_with fail
        refine calls_named ?_
        rintro w5 hw5
        clear rGl rG0 rG1 rG2 rG3
        have b5 : Below w4.heap.size w4 w5 := by rw [hw5]; exact (Below.refl _ _).alloc (Nat.le_refl _) _
        have N_5 : Blk w5 w4.heap.size 45 #[.int .i64 k, .int .i64 o, .int .i64 p1, .int .i64 p2, .int .i64 p3, .int .i64 p4, .int .i64 p5] := by rw [hw5]; exact Blk.new_at _ _ _ _ rfl
        clear hw5
        have K_5 := K_4.below b5
        clear K_4
        have G_5 := G_4.below b5
        clear G_4
        have R_5 := R_4.below b5
        clear R_4
        have O_5 := O_4.below b5
        clear O_4
        have RA_5 := RA_4.below b5
        clear RA_4
        have RB_5 := RB_4.below b5
        clear RB_4
        have F_5 := bthen F_4 b5
        have W_5 := N_5
        clear N_5
        have e5 := ackOk_any i0 a1 a2 a3 w5
        rw [HB.out] at e5
        refine (e5).mono ?_
        rintro e w6 ⟨rfl, b6⟩
        have K_6 := K_5.below b6
        clear K_5
        have G_6 := G_5.below b6
        clear G_5
        have R_6 := R_5.below b6
        clear R_5
        have O_6 := O_5.below b6
        clear O_5
        have W_6 := W_5.below b6
        clear W_5
        have RA_6 := RA_5.below b6
        clear RA_5
        have RB_6 := RB_5.below b6
        clear RB_5
        have F_6 := bthen F_5 b6
        clear e5
        have hap : ∀ a b, some A' = some a → some B' = some b → a.block ≠ b.block := fun a b ha hb => by injection ha with ha; injection hb with hb; subst ha; subst hb; exact hne
        have rKl := K_6.lt
        have rK0 := K_6.cell 0
        have rK1 := K_6.cell 1
        have rK2 := K_6.cell 2
        have rK3 := K_6.cell 3
        have rGl := G_6.lt
        have rG0 := G_6.cell 0
        have rG1 := G_6.cell 1
        have rG2 := G_6.cell 2
        have rG3 := G_6.cell 3
        have rOl := O_6.lt
        have rO0 := O_6.cell 0
        have rO1 := O_6.cell 1
        have rO2 := O_6.cell 2
        have rO3 := O_6.cell 3
        have rWl := W_6.lt
        have rW0 := W_6.cell 0
        have rW1 := W_6.cell 1
        have rW2 := W_6.cell 2
        have rW3 := W_6.cell 3
        have rW4 := W_6.cell 4
        have rW5 := W_6.cell 5
        have rW6 := W_6.cell 6
        have hz0 := F_0.size
        have hA : ∀ a, ((some A') : Option Addr) = some a → a.block ≠ w.heap.size + 1 + 1 := fun a ha => by have := RA_6.ge a ha; omega
        have hB : ∀ a, ((some B') : Option Addr) = some a → a.block ≠ w.heap.size + 1 + 1 := fun a ha => by have := RB_6.ge a ha; omega
        have hle : w.heap.size ≤ v0.heap.size := by omega
        have hF := F_6
        have HX := Lib.hid (And.intro hA (And.intro hB (And.intro hle hF)))
        clear hA hB hle hF
        have HPX := Lib.hid RA_6
        have HQX := Lib.hid RB_6
        have HAX := Lib.hid hap
        have rRl := R_6.lt
        have rR0 := R_6.cell 0
        have rR1 := R_6.cell 1
        have rR2 := R_6.cell 2
        have rR3 := R_6.cell 3
        have rRz0 := R_6.frozen 0
        have rRz1 := R_6.frozen 1
        have rRz2 := R_6.frozen 2
        have rRz3 := R_6.frozen 3
        go_wp2
        refine bodyPost_ret (v := .agg #[.int .i64 i0, .slice (some A') n c', .slice (some B') m d', .int .i64 t0]) (by simp [results, Try.results16, go_sem, *]) rfl ⟨_, _, _, _, rfl, ?_, ?_, HAX.out, ?_⟩
        · exact (four_sets HPX.out HX.out.1 _ _ _ _).mono HX.out.2.2.1
        · exact (four_sets HQX.out HX.out.2.1 _ _ _ _).mono HX.out.2.2.1
        · exact four_below HX.out.2.2.2 (Nat.le_succ_of_le (Nat.le_succ _)) _ _ _ _
      rw [hs1] at hq
      subst hq
      by_cases hk4 : k = 4
      · skip
        rw [heardR_no hb (show ackFit i0 wl gl t0 i0 s a2 a3 = false by unfold ackFit; rw [hkw, decide_eq_false (not_not_intro hk4)]; simp)]
        clear hb
        show Calls _ _ _ w (RetHeard w w.heap.size i0 t0 wl.length (WT wl) gl.length (GT gl))
        rw [hl, hr]
        have HK4 := Lib.hid hk4
        clear hk4
        go_enter Try.func16, Try.ntmps16
        go_wp2_with fail
        obtain ⟨v0, hv⟩ : ∃ x : World, x = (((w.alloc (.cells #[.int .i64 i0, .slice A n c, .slice B m d, .int .i64 t0] 32)).alloc (.cells #[.int .i64 i0, .int .i64 (s), .int .i64 a2, .int .i64 a3] 59)).alloc (.cells #[.int .i64 0, .slice none 0 0, .slice none 0 0, .int .i64 0] 32)) := ⟨_, rfl⟩
        rw [← hv]
        have F_0 : Below w.heap.size w v0 := by rw [hv]; (repeat' (first | (with_reducible exact Below.refl _ _) | (with_reducible assumption) | (with_reducible refine Below.alloc ?_ ?_ _) | (with_reducible refine Below.drew ?_) | (with_reducible refine Below.setCell ?_ ?_ _) | (with_reducible refine bstep (by assumption) ?_ ?_) | (with_reducible exact Nat.le_refl _) | omega | (simp [*]; done) | (simp [*]; omega)))
        have K_0 : Blk v0 w.heap.size 32 #[.int .i64 i0, .slice A n c, .slice B m d, .int .i64 t0] := by rw [hv]; exact ((Blk.new_at _ _ _ _ rfl).alloc _).alloc _
        have G_0 : Blk v0 (w.heap.size + 1) 59 #[.int .i64 i0, .int .i64 (s), .int .i64 a2, .int .i64 a3] := by rw [hv]; exact (Blk.new_at _ _ _ _ (by simp)).alloc _
        have R_0 : Blk v0 (w.heap.size + 1 + 1) 32 #[.int .i64 0, .slice none 0 0, .slice none 0 0, .int .i64 0] := by rw [hv]; exact Blk.new_at _ _ _ _ (by simp)
        clear hv
        have R_v0 := R_0.lt
        refine (C1.out v0 (HP.out v0 F_0) (HQ.out v0 F_0)).mono ?_
        rintro e w1 ⟨rfl, b1⟩
        have K_1 := K_0.below b1
        clear K_0
        have G_1 := G_0.below b1
        clear G_0
        have R_1 := R_0.below b1
        clear R_0
        have F_1 := bthen F_0 b1
        have rKl := K_1.lt
        have rK0 := K_1.cell 0
        have rK1 := K_1.cell 1
        have rK2 := K_1.cell 2
        have rK3 := K_1.cell 3
        go_wp2_with fail
        refine (copyClient_any A n c B m d i0 t0 (WT wl) (GT gl) w1 (HP.out w1 F_1) (HQ.out w1 F_1) (by omega) (by omega)).mono ?_
        rintro e w2 ⟨A', c', B', d', rfl, RA, RB, hne, b2⟩
        clear rKl rK0 rK1 rK2 rK3
        have K_2 := K_1.below b2
        clear K_1
        have G_2 := G_1.below b2
        clear G_1
        have R_2 := R_1.below b2
        clear R_1
        have F_2 := bthen F_1 b2
        have RA_2 := RA.mono (show v0.heap.size ≤ w1.heap.size from b1.size)
        have RB_2 := RB.mono (show v0.heap.size ≤ w1.heap.size from b1.size)
        clear RA RB
        have rKl := K_2.lt
        have rK0 := K_2.cell 0
        have rK1 := K_2.cell 1
        have rK2 := K_2.cell 2
        have rK3 := K_2.cell 3
        go_wp2_with fail
        refine calls_named ?_
        rintro w3 hw3
        clear rKl rK0 rK1 rK2 rK3
        have b3 : Below w2.heap.size w2 w3 := by rw [hw3]; exact (Below.refl _ _).alloc (Nat.le_refl _) _
        have N_3 : Blk w3 w2.heap.size 32 #[.int .i64 i0, .slice (some A') n c', .slice (some B') m d', .int .i64 t0] := by rw [hw3]; exact Blk.new_at _ _ _ _ rfl
        clear hw3
        have K_3 := K_2.below b3
        clear K_2
        have G_3 := G_2.below b3
        clear G_2
        have R_3 := R_2.below b3
        clear R_2
        have RA_3 := RA_2.below b3
        clear RA_2
        have RB_3 := RB_2.below b3
        clear RB_2
        have F_3 := bthen F_2 b3
        have O_3 := N_3
        clear N_3
        have c4 := pending_any A n c B m d i0 t0 wl gl w3 (HP.out w3 F_3) (HQ.out w3 F_3) hl hr hn hm HLE.out
        rw [HW.out, HS.out] at c4
        refine (c4).mono ?_
        rintro e w4 ⟨rfl, b4⟩
        have K_4 := K_3.below b4
        clear K_3
        have G_4 := G_3.below b4
        clear G_3
        have R_4 := R_3.below b4
        clear R_3
        have O_4 := O_3.below b4
        clear O_3
        have RA_4 := RA_3.below b4
        clear RA_3
        have RB_4 := RB_3.below b4
        clear RB_3
        have F_4 := bthen F_3 b4
        clear c4
        have rGl := G_4.lt
        have rG0 := G_4.cell 0
        have rG1 := G_4.cell 1
        have rG2 := G_4.cell 2
        have rG3 := G_4.cell 3
        go_wp2_with fail
        refine calls_named ?_
        rintro w5 hw5
        clear rGl rG0 rG1 rG2 rG3
        have b5 : Below w4.heap.size w4 w5 := by rw [hw5]; exact (Below.refl _ _).alloc (Nat.le_refl _) _
        have N_5 : Blk w5 w4.heap.size 45 #[.int .i64 k, .int .i64 o, .int .i64 p1, .int .i64 p2, .int .i64 p3, .int .i64 p4, .int .i64 p5] := by rw [hw5]; exact Blk.new_at _ _ _ _ rfl
        clear hw5
        have K_5 := K_4.below b5
        clear K_4
        have G_5 := G_4.below b5
        clear G_4
        have R_5 := R_4.below b5
        clear R_4
        have O_5 := O_4.below b5
        clear O_4
        have RA_5 := RA_4.below b5
        clear RA_4
        have RB_5 := RB_4.below b5
        clear RB_4
        have F_5 := bthen F_4 b5
        have W_5 := N_5
        clear N_5
        have e5 := ackOk_any i0 s a2 a3 w5
        rw [HB.out] at e5
        refine (e5).mono ?_
        rintro e w6 ⟨rfl, b6⟩
        have K_6 := K_5.below b6
        clear K_5
        have G_6 := G_5.below b6
        clear G_5
        have R_6 := R_5.below b6
        clear R_5
        have O_6 := O_5.below b6
        clear O_5
        have W_6 := W_5.below b6
        clear W_5
        have RA_6 := RA_5.below b6
        clear RA_5
        have RB_6 := RB_5.below b6
        clear RB_5
        have F_6 := bthen F_5 b6
        clear e5
        have hk4 := HK4.out
        have hk5 : (k == 4) = true := by rw [hk4]; rfl
        have hap : ∀ a b, some A' = some a → some B' = some b → a.block ≠ b.block := fun a b ha hb => by injection ha with ha; injection hb with hb; subst ha; subst hb; exact hne
        have rKl := K_6.lt
        have rK0 := K_6.cell 0
        have rK1 := K_6.cell 1
        have rK2 := K_6.cell 2
        have rK3 := K_6.cell 3
        have rGl := G_6.lt
        have rG0 := G_6.cell 0
        have rG1 := G_6.cell 1
        have rG2 := G_6.cell 2
        have rG3 := G_6.cell 3
        have rOl := O_6.lt
        have rO0 := O_6.cell 0
        have rO1 := O_6.cell 1
        have rO2 := O_6.cell 2
        have rO3 := O_6.cell 3
        have rWl := W_6.lt
        have rW0 := W_6.cell 0
        have rW1 := W_6.cell 1
        have rW2 := W_6.cell 2
        have rW3 := W_6.cell 3
        have rW4 := W_6.cell 4
        have rW5 := W_6.cell 5
        have rW6 := W_6.cell 6
        have hz0 := F_0.size
        have hA : ∀ a, ((some A') : Option Addr) = some a → a.block ≠ w.heap.size + 1 + 1 := fun a ha => by have := RA_6.ge a ha; omega
        have hB : ∀ a, ((some B') : Option Addr) = some a → a.block ≠ w.heap.size + 1 + 1 := fun a ha => by have := RB_6.ge a ha; omega
        have hle : w.heap.size ≤ v0.heap.size := by omega
        have hF := F_6
        have HX := Lib.hid (And.intro hA (And.intro hB (And.intro hle hF)))
        clear hA hB hle hF
        have HPX := Lib.hid RA_6
        have HQX := Lib.hid RB_6
        have HAX := Lib.hid hap
        have rRl := R_6.lt
        have rR0 := R_6.cell 0
        have rR1 := R_6.cell 1
        have rR2 := R_6.cell 2
        have rR3 := R_6.cell 3
        have rRz0 := R_6.frozen 0
        have rRz1 := R_6.frozen 1
        have rRz2 := R_6.frozen 2
        have rRz3 := R_6.frozen 3
        go_wp2
        refine bodyPost_ret (v := .agg #[.int .i64 i0, .slice (some A') n c', .slice (some B') m d', .int .i64 t0]) (by simp [results, Try.results16, go_sem, *]) rfl ⟨_, _, _, _, rfl, ?_, ?_, HAX.out, ?_⟩
        · exact (four_sets HPX.out HX.out.1 _ _ _ _).mono HX.out.2.2.1
        · exact (four_sets HQX.out HX.out.2.1 _ _ _ _).mono HX.out.2.2.1
        · exact four_below HX.out.2.2.2 (Nat.le_succ_of_le (Nat.le_succ _)) _ _ _ _
      by_cases hx : t0 < a2
      rotate_left
      · skip
        rw [heardR_no hb (show ackFit i0 wl gl t0 i0 s a2 a3 = false by unfold ackFit; rw [decide_eq_false hx]; simp)]
        clear hb
        show Calls _ _ _ w (RetHeard w w.heap.size i0 t0 wl.length (WT wl) gl.length (GT gl))
        rw [hl, hr]
        have HK4 := Lib.hid hk4
        clear hk4
        have hx2 : a2 ≤ t0 := by omega
        clear hx
        go_enter Try.func16, Try.ntmps16
        go_wp2_with fail
        obtain ⟨v0, hv⟩ : ∃ x : World, x = (((w.alloc (.cells #[.int .i64 i0, .slice A n c, .slice B m d, .int .i64 t0] 32)).alloc (.cells #[.int .i64 i0, .int .i64 (s), .int .i64 a2, .int .i64 a3] 59)).alloc (.cells #[.int .i64 0, .slice none 0 0, .slice none 0 0, .int .i64 0] 32)) := ⟨_, rfl⟩
        rw [← hv]
        have F_0 : Below w.heap.size w v0 := by rw [hv]; (repeat' (first | (with_reducible exact Below.refl _ _) | (with_reducible assumption) | (with_reducible refine Below.alloc ?_ ?_ _) | (with_reducible refine Below.drew ?_) | (with_reducible refine Below.setCell ?_ ?_ _) | (with_reducible refine bstep (by assumption) ?_ ?_) | (with_reducible exact Nat.le_refl _) | omega | (simp [*]; done) | (simp [*]; omega)))
        have K_0 : Blk v0 w.heap.size 32 #[.int .i64 i0, .slice A n c, .slice B m d, .int .i64 t0] := by rw [hv]; exact ((Blk.new_at _ _ _ _ rfl).alloc _).alloc _
        have G_0 : Blk v0 (w.heap.size + 1) 59 #[.int .i64 i0, .int .i64 (s), .int .i64 a2, .int .i64 a3] := by rw [hv]; exact (Blk.new_at _ _ _ _ (by simp)).alloc _
        have R_0 : Blk v0 (w.heap.size + 1 + 1) 32 #[.int .i64 0, .slice none 0 0, .slice none 0 0, .int .i64 0] := by rw [hv]; exact Blk.new_at _ _ _ _ (by simp)
        clear hv
        have R_v0 := R_0.lt
        refine (C1.out v0 (HP.out v0 F_0) (HQ.out v0 F_0)).mono ?_
        rintro e w1 ⟨rfl, b1⟩
        have K_1 := K_0.below b1
        clear K_0
        have G_1 := G_0.below b1
        clear G_0
        have R_1 := R_0.below b1
        clear R_0
        have F_1 := bthen F_0 b1
        have rKl := K_1.lt
        have rK0 := K_1.cell 0
        have rK1 := K_1.cell 1
        have rK2 := K_1.cell 2
        have rK3 := K_1.cell 3
        go_wp2_with fail
        refine (copyClient_any A n c B m d i0 t0 (WT wl) (GT gl) w1 (HP.out w1 F_1) (HQ.out w1 F_1) (by omega) (by omega)).mono ?_
        rintro e w2 ⟨A', c', B', d', rfl, RA, RB, hne, b2⟩
        clear rKl rK0 rK1 rK2 rK3
        have K_2 := K_1.below b2
        clear K_1
        have G_2 := G_1.below b2
        clear G_1
        have R_2 := R_1.below b2
        clear R_1
        have F_2 := bthen F_1 b2
        have RA_2 := RA.mono (show v0.heap.size ≤ w1.heap.size from b1.size)
        have RB_2 := RB.mono (show v0.heap.size ≤ w1.heap.size from b1.size)
        clear RA RB
        have rKl := K_2.lt
        have rK0 := K_2.cell 0
        have rK1 := K_2.cell 1
        have rK2 := K_2.cell 2
        have rK3 := K_2.cell 3
        go_wp2_with fail
        refine calls_named ?_
        rintro w3 hw3
        clear rKl rK0 rK1 rK2 rK3
        have b3 : Below w2.heap.size w2 w3 := by rw [hw3]; exact (Below.refl _ _).alloc (Nat.le_refl _) _
        have N_3 : Blk w3 w2.heap.size 32 #[.int .i64 i0, .slice (some A') n c', .slice (some B') m d', .int .i64 t0] := by rw [hw3]; exact Blk.new_at _ _ _ _ rfl
        clear hw3
        have K_3 := K_2.below b3
        clear K_2
        have G_3 := G_2.below b3
        clear G_2
        have R_3 := R_2.below b3
        clear R_2
        have RA_3 := RA_2.below b3
        clear RA_2
        have RB_3 := RB_2.below b3
        clear RB_2
        have F_3 := bthen F_2 b3
        have O_3 := N_3
        clear N_3
        have c4 := pending_any A n c B m d i0 t0 wl gl w3 (HP.out w3 F_3) (HQ.out w3 F_3) hl hr hn hm HLE.out
        rw [HW.out, HS.out] at c4
        refine (c4).mono ?_
        rintro e w4 ⟨rfl, b4⟩
        have K_4 := K_3.below b4
        clear K_3
        have G_4 := G_3.below b4
        clear G_3
        have R_4 := R_3.below b4
        clear R_3
        have O_4 := O_3.below b4
        clear O_3
        have RA_4 := RA_3.below b4
        clear RA_3
        have RB_4 := RB_3.below b4
        clear RB_3
        have F_4 := bthen F_3 b4
        clear c4
        have rGl := G_4.lt
        have rG0 := G_4.cell 0
        have rG1 := G_4.cell 1
        have rG2 := G_4.cell 2
        have rG3 := G_4.cell 3
        go_wp2_with fail
        refine calls_named ?_
        rintro w5 hw5
        clear rGl rG0 rG1 rG2 rG3
        have b5 : Below w4.heap.size w4 w5 := by rw [hw5]; exact (Below.refl _ _).alloc (Nat.le_refl _) _
        have N_5 : Blk w5 w4.heap.size 45 #[.int .i64 k, .int .i64 o, .int .i64 p1, .int .i64 p2, .int .i64 p3, .int .i64 p4, .int .i64 p5] := by rw [hw5]; exact Blk.new_at _ _ _ _ rfl
        clear hw5
        have K_5 := K_4.below b5
        clear K_4
        have G_5 := G_4.below b5
        clear G_4
        have R_5 := R_4.below b5
        clear R_4
        have O_5 := O_4.below b5
        clear O_4
        have RA_5 := RA_4.below b5
        clear RA_4
        have RB_5 := RB_4.below b5
        clear RB_4
        have F_5 := bthen F_4 b5
        have W_5 := N_5
        clear N_5
        have e5 := ackOk_any i0 s a2 a3 w5
        rw [HB.out] at e5
        refine (e5).mono ?_
        rintro e w6 ⟨rfl, b6⟩
        have K_6 := K_5.below b6
        clear K_5
        have G_6 := G_5.below b6
        clear G_5
        have R_6 := R_5.below b6
        clear R_5
        have O_6 := O_5.below b6
        clear O_5
        have W_6 := W_5.below b6
        clear W_5
        have RA_6 := RA_5.below b6
        clear RA_5
        have RB_6 := RB_5.below b6
        clear RB_5
        have F_6 := bthen F_5 b6
        clear e5
        have hk4 := HK4.out
        have hk5 : (k == 4) = false := by rw [beqI]; exact decide_eq_false hk4
        have hap : ∀ a b, some A' = some a → some B' = some b → a.block ≠ b.block := fun a b ha hb => by injection ha with ha; injection hb with hb; subst ha; subst hb; exact hne
        have rKl := K_6.lt
        have rK0 := K_6.cell 0
        have rK1 := K_6.cell 1
        have rK2 := K_6.cell 2
        have rK3 := K_6.cell 3
        have rGl := G_6.lt
        have rG0 := G_6.cell 0
        have rG1 := G_6.cell 1
        have rG2 := G_6.cell 2
        have rG3 := G_6.cell 3
        have rOl := O_6.lt
        have rO0 := O_6.cell 0
        have rO1 := O_6.cell 1
        have rO2 := O_6.cell 2
        have rO3 := O_6.cell 3
        have rWl := W_6.lt
        have rW0 := W_6.cell 0
        have rW1 := W_6.cell 1
        have rW2 := W_6.cell 2
        have rW3 := W_6.cell 3
        have rW4 := W_6.cell 4
        have rW5 := W_6.cell 5
        have rW6 := W_6.cell 6
        have hz0 := F_0.size
        have hA : ∀ a, ((some A') : Option Addr) = some a → a.block ≠ w.heap.size + 1 + 1 := fun a ha => by have := RA_6.ge a ha; omega
        have hB : ∀ a, ((some B') : Option Addr) = some a → a.block ≠ w.heap.size + 1 + 1 := fun a ha => by have := RB_6.ge a ha; omega
        have hle : w.heap.size ≤ v0.heap.size := by omega
        have hF := F_6
        have HX := Lib.hid (And.intro hA (And.intro hB (And.intro hle hF)))
        clear hA hB hle hF
        have HPX := Lib.hid RA_6
        have HQX := Lib.hid RB_6
        have HAX := Lib.hid hap
        have rRl := R_6.lt
        have rR0 := R_6.cell 0
        have rR1 := R_6.cell 1
        have rR2 := R_6.cell 2
        have rR3 := R_6.cell 3
        have rRz0 := R_6.frozen 0
        have rRz1 := R_6.frozen 1
        have rRz2 := R_6.frozen 2
        have rRz3 := R_6.frozen 3
        go_wp2
        refine bodyPost_ret (v := .agg #[.int .i64 i0, .slice (some A') n c', .slice (some B') m d', .int .i64 t0]) (by simp [results, Try.results16, go_sem, *]) rfl ⟨_, _, _, _, rfl, ?_, ?_, HAX.out, ?_⟩
        · exact (four_sets HPX.out HX.out.1 _ _ _ _).mono HX.out.2.2.1
        · exact (four_sets HQX.out HX.out.2.1 _ _ _ _).mono HX.out.2.2.1
        · exact four_below HX.out.2.2.2 (Nat.le_succ_of_le (Nat.le_succ _)) _ _ _ _
      rw [heardR_yes hb (show ackFit i0 wl gl t0 i0 s a2 a3 = true by unfold ackFit; rw [hB, decide_eq_true rfl, hs1, decide_eq_true rfl, hkw, decide_eq_true hk4, decide_eq_true hx]; rfl)]
      clear hb
      rw [hs1]
      show Calls _ _ _ w (RetHeard w w.heap.size i0 a2 wl.length (WT wl) (gl ++ [(⟨s, a2, 0, 0⟩ : Gt)]).length (GT (gl ++ [⟨s, a2, 0, 0⟩])))
      rw [List.length_append, hl, hr]
      have HK4 := Lib.hid hk4
      clear hk4
      have hx2 : ¬ a2 ≤ t0 := by omega
      clear hx
      go_enter Try.func16, Try.ntmps16
      go_wp2_with fail
      obtain ⟨v0, hv⟩ : ∃ x : World, x = (((w.alloc (.cells #[.int .i64 i0, .slice A n c, .slice B m d, .int .i64 t0] 32)).alloc (.cells #[.int .i64 i0, .int .i64 (s), .int .i64 a2, .int .i64 a3] 59)).alloc (.cells #[.int .i64 0, .slice none 0 0, .slice none 0 0, .int .i64 0] 32)) := ⟨_, rfl⟩
      rw [← hv]
      have F_0 : Below w.heap.size w v0 := by rw [hv]; (repeat' (first | (with_reducible exact Below.refl _ _) | (with_reducible assumption) | (with_reducible refine Below.alloc ?_ ?_ _) | (with_reducible refine Below.drew ?_) | (with_reducible refine Below.setCell ?_ ?_ _) | (with_reducible refine bstep (by assumption) ?_ ?_) | (with_reducible exact Nat.le_refl _) | omega | (simp [*]; done) | (simp [*]; omega)))
      have K_0 : Blk v0 w.heap.size 32 #[.int .i64 i0, .slice A n c, .slice B m d, .int .i64 t0] := by rw [hv]; exact ((Blk.new_at _ _ _ _ rfl).alloc _).alloc _
      have G_0 : Blk v0 (w.heap.size + 1) 59 #[.int .i64 i0, .int .i64 (s), .int .i64 a2, .int .i64 a3] := by rw [hv]; exact (Blk.new_at _ _ _ _ (by simp)).alloc _
      have R_0 : Blk v0 (w.heap.size + 1 + 1) 32 #[.int .i64 0, .slice none 0 0, .slice none 0 0, .int .i64 0] := by rw [hv]; exact Blk.new_at _ _ _ _ (by simp)
      clear hv
      have R_v0 := R_0.lt
      refine (C1.out v0 (HP.out v0 F_0) (HQ.out v0 F_0)).mono ?_
      rintro e w1 ⟨rfl, b1⟩
      have K_1 := K_0.below b1
      clear K_0
      have G_1 := G_0.below b1
      clear G_0
      have R_1 := R_0.below b1
      clear R_0
      have F_1 := bthen F_0 b1
      have rKl := K_1.lt
      have rK0 := K_1.cell 0
      have rK1 := K_1.cell 1
      have rK2 := K_1.cell 2
      have rK3 := K_1.cell 3
      go_wp2_with fail
      refine (copyClient_any A n c B m d i0 t0 (WT wl) (GT gl) w1 (HP.out w1 F_1) (HQ.out w1 F_1) (by omega) (by omega)).mono ?_
      rintro e w2 ⟨A', c', B', d', rfl, RA, RB, hne, b2⟩
      clear rKl rK0 rK1 rK2 rK3
      have K_2 := K_1.below b2
      clear K_1
      have G_2 := G_1.below b2
      clear G_1
      have R_2 := R_1.below b2
      clear R_1
      have F_2 := bthen F_1 b2
      have RA_2 := RA.mono (show v0.heap.size ≤ w1.heap.size from b1.size)
      have RB_2 := RB.mono (show v0.heap.size ≤ w1.heap.size from b1.size)
      clear RA RB
      have rKl := K_2.lt
      have rK0 := K_2.cell 0
      have rK1 := K_2.cell 1
      have rK2 := K_2.cell 2
      have rK3 := K_2.cell 3
      go_wp2_with fail
      refine calls_named ?_
      rintro w3 hw3
      clear rKl rK0 rK1 rK2 rK3
      have b3 : Below w2.heap.size w2 w3 := by rw [hw3]; exact (Below.refl _ _).alloc (Nat.le_refl _) _
      have N_3 : Blk w3 w2.heap.size 32 #[.int .i64 i0, .slice (some A') n c', .slice (some B') m d', .int .i64 t0] := by rw [hw3]; exact Blk.new_at _ _ _ _ rfl
      clear hw3
      have K_3 := K_2.below b3
      clear K_2
      have G_3 := G_2.below b3
      clear G_2
      have R_3 := R_2.below b3
      clear R_2
      have RA_3 := RA_2.below b3
      clear RA_2
      have RB_3 := RB_2.below b3
      clear RB_2
      have F_3 := bthen F_2 b3
      have O_3 := N_3
      clear N_3
      have c4 := pending_any A n c B m d i0 t0 wl gl w3 (HP.out w3 F_3) (HQ.out w3 F_3) hl hr hn hm HLE.out
      rw [HW.out, HS.out] at c4
      refine (c4).mono ?_
      rintro e w4 ⟨rfl, b4⟩
      have K_4 := K_3.below b4
      clear K_3
      have G_4 := G_3.below b4
      clear G_3
      have R_4 := R_3.below b4
      clear R_3
      have O_4 := O_3.below b4
      clear O_3
      have RA_4 := RA_3.below b4
      clear RA_3
      have RB_4 := RB_3.below b4
      clear RB_3
      have F_4 := bthen F_3 b4
      clear c4
      have rGl := G_4.lt
      have rG0 := G_4.cell 0
      have rG1 := G_4.cell 1
      have rG2 := G_4.cell 2
      have rG3 := G_4.cell 3
      go_wp2_with fail
      refine calls_named ?_
      rintro w5 hw5
      clear rGl rG0 rG1 rG2 rG3
      have b5 : Below w4.heap.size w4 w5 := by rw [hw5]; exact (Below.refl _ _).alloc (Nat.le_refl _) _
      have N_5 : Blk w5 w4.heap.size 45 #[.int .i64 k, .int .i64 o, .int .i64 p1, .int .i64 p2, .int .i64 p3, .int .i64 p4, .int .i64 p5] := by rw [hw5]; exact Blk.new_at _ _ _ _ rfl
      clear hw5
      have K_5 := K_4.below b5
      clear K_4
      have G_5 := G_4.below b5
      clear G_4
      have R_5 := R_4.below b5
      clear R_4
      have O_5 := O_4.below b5
      clear O_4
      have RA_5 := RA_4.below b5
      clear RA_4
      have RB_5 := RB_4.below b5
      clear RB_4
      have F_5 := bthen F_4 b5
      have W_5 := N_5
      clear N_5
      have e5 := ackOk_any i0 s a2 a3 w5
      rw [HB.out] at e5
      refine (e5).mono ?_
      rintro e w6 ⟨rfl, b6⟩
      have K_6 := K_5.below b6
      clear K_5
      have G_6 := G_5.below b6
      clear G_5
      have R_6 := R_5.below b6
      clear R_5
      have O_6 := O_5.below b6
      clear O_5
      have W_6 := W_5.below b6
      clear W_5
      have RA_6 := RA_5.below b6
      clear RA_5
      have RB_6 := RB_5.below b6
      clear RB_5
      have F_6 := bthen F_5 b6
      clear e5
      have hk4 := HK4.out
      have hk5 : (k == 4) = false := by rw [beqI]; exact decide_eq_false hk4
      have hap : ∀ a b, some A' = some a → some B' = some b → a.block ≠ b.block := fun a b ha hb => by injection ha with ha; injection hb with hb; subst ha; subst hb; exact hne
      have hv6 : v0.heap.size ≤ w6.heap.size := Nat.le_trans b1.size (Nat.le_trans b2.size (Nat.le_trans b3.size (Nat.le_trans b4.size (Nat.le_trans b5.size b6.size))))
      have c7 := answered_any v0.heap.size (some A') n c' (some B') m d' i0 t0 s a2 0 0 (WT wl) (GT gl) w6 RA_6 RB_6 hap hv6 (by omega)
      clear hap
      have rKl := K_6.lt
      have rK0 := K_6.cell 0
      have rK1 := K_6.cell 1
      have rK2 := K_6.cell 2
      have rK3 := K_6.cell 3
      have rGl := G_6.lt
      have rG0 := G_6.cell 0
      have rG1 := G_6.cell 1
      have rG2 := G_6.cell 2
      have rG3 := G_6.cell 3
      have rOl := O_6.lt
      have rO0 := O_6.cell 0
      have rO1 := O_6.cell 1
      have rO2 := O_6.cell 2
      have rO3 := O_6.cell 3
      have rWl := W_6.lt
      have rW0 := W_6.cell 0
      have rW1 := W_6.cell 1
      have rW2 := W_6.cell 2
      have rW3 := W_6.cell 3
      have rW4 := W_6.cell 4
      have rW5 := W_6.cell 5
      have rW6 := W_6.cell 6
      go_wp2_with fail
      refine c7.mono ?_
      rintro e w7 ⟨A5, c5, B5, d5, rfl, RA7, RB7, hap, b7⟩
      clear rKl rK0 rK1 rK2 rK3
      clear rGl rG0 rG1 rG2 rG3
      clear rOl rO0 rO1 rO2 rO3
      clear rWl rW0 rW1 rW2 rW3 rW4 rW5 rW6
      have R_7 : Blk w7 (w.heap.size + 1 + 1) 32 #[.int .i64 0, .slice none 0 0, .slice none 0 0, .int .i64 0] := (b7.block _ R_v0).trans R_6
      have F_7 : Below w.heap.size w w7 := ⟨b7.os.trans F_6.os, b7.tape.trans F_6.tape, b7.output.trans F_6.output, Nat.le_trans F_6.size b7.size, fun k hk => (b7.block k (Nat.lt_of_lt_of_le hk F_0.size)).trans (F_6.block k hk)⟩
      clear K_6 G_6 O_6 W_6 R_6 c7
      rw [show GT gl ++ [s, a2, 0, 0] = GT (gl ++ [⟨s, a2, 0, 0⟩]) by rw [GT_append]; rfl] at RB7
      have hz0 := F_0.size
      have hA : ∀ a, (A5 : Option Addr) = some a → a.block ≠ w.heap.size + 1 + 1 := fun a ha => by have := RA7.ge a ha; omega
      have hB : ∀ a, (B5 : Option Addr) = some a → a.block ≠ w.heap.size + 1 + 1 := fun a ha => by have := RB7.ge a ha; omega
      have hle : w.heap.size ≤ v0.heap.size := by omega
      have hF := F_7
      have HX := Lib.hid (And.intro hA (And.intro hB (And.intro hle hF)))
      clear hA hB hle hF
      have HPX := Lib.hid RA7
      have HQX := Lib.hid RB7
      have HAX := Lib.hid hap
      have rRl := R_7.lt
      have rR0 := R_7.cell 0
      have rR1 := R_7.cell 1
      have rR2 := R_7.cell 2
      have rR3 := R_7.cell 3
      have rRz0 := R_7.frozen 0
      have rRz1 := R_7.frozen 1
      have rRz2 := R_7.frozen 2
      have rRz3 := R_7.frozen 3
      go_wp2
      refine bodyPost_ret (v := .agg #[.int .i64 i0, .slice A5 n c5, .slice B5 (m + 1) d5, .int .i64 a2]) (by simp [results, Try.results16, go_sem, *]) rfl ⟨_, _, _, _, rfl, ?_, ?_, HAX.out, ?_⟩
      · exact (four_sets HPX.out HX.out.1 _ _ _ _).mono HX.out.2.2.1
      · exact (four_sets HQX.out HX.out.2.1 _ _ _ _).mono HX.out.2.2.1
      · exact four_below HX.out.2.2.2 (Nat.le_succ_of_le (Nat.le_succ _)) _ _ _ _
end Go.Proofs.Ytckbnfgdjdppfaa

/- Part 6 of what the claim rests on: T3N1, T3N2, T3N3, T3N4, T3N5, T4, T5. No condition of its own. -/
import Derived.Test.YtokklkmibjpjnaaGreatBd5
namespace Go.Proofs.YtokklkmibjpjnaaGreat
set_option linter.unusedSimpArgs false
set_option linter.unusedVariables false
attribute [local go_sem] n_lt2 n_lt3 n_lt4 n_le2 n_le3
open Go.RowKit
attribute [local go_sem] Ext.cell Ext.frozen
set_option maxRecDepth 100000 in
set_option maxHeartbeats 8000000 in
theorem applied_no1 (A : Option Addr) (n c : Nat) (B : Option Addr) (m d : Nat) (i0 t0 l0 l1 l2 : Int) (pl : List Pr) (ql : List Jb) (ex et ec es ea eb eg eh : Int) (w : World) (hP : Sl w 2 A n (PR pl)) (hQ : Sl w 5 B m (JB ql)) (hl : pl.length = n) (hr : ql.length = m) (hn : n ≤ 1000) (hm : m ≤ 1000) (hA : A = none → n = 0 ∧ c = 0) (hB : B = none → m = 0 ∧ d = 0) (p2 : List Pr) (q2 : List Jb) (h2 e2 u2 : Int) (hE : Hid (effE l0 l1 l2 pl ql ex et ec es 1 ea eb eg eh = (⟨p2, q2, h2, e2, u2⟩, false))) :
    Calls Tryz.prog 43 #[.agg #[.int .i64 i0, .int .i64 t0, .slice A n c, .slice B m d, .int .i64 l0, .int .i64 l1, .int .i64 l2], .agg #[.int .i64 ex, .int .i64 et, .int .i64 ec, .int .i64 es, .int .i64 1, .int .i64 ea, .int .i64 eb, .int .i64 eg, .int .i64 eh]] w (RetStateV w ex et l0 l1 l2 pl.length (PR pl) ql.length (JB ql) (.int .i64 0)) := by
  have HP := Lib.hid hP
  have HQ := Lib.hid hQ
  have HA := Lib.hid hA
  have HB := Lib.hid hB
  have hL := Lib.hid hl
  have hR := Lib.hid hr
  clear hP hQ hA hB hl hr
  go_enter Tryz.func43, Tryz.ntmps43
  go_upto_region 1 with fail
  obtain ⟨v0, hv0⟩ : ∃ x : World, x = (((w.alloc (.cells #[.int .i64 i0, .int .i64 t0, .slice A n c, .slice B m d, .int .i64 l0, .int .i64 l1, .int .i64 l2] 37)).alloc (.cells #[.int .i64 ex, .int .i64 et, .int .i64 ec, .int .i64 es, .int .i64 1, .int .i64 ea, .int .i64 eb, .int .i64 eg, .int .i64 eh] 43)).alloc (.cells #[.int .i64 0, .int .i64 0, .slice none 0 0, .slice none 0 0, .int .i64 0, .int .i64 0, .int .i64 0] 37)) := ⟨_, rfl⟩
  rw [← hv0]
  have f0 : Below w.heap.size w v0 := by rw [hv0]; (repeat' (first | (with_reducible exact Below.refl _ _) | (with_reducible assumption) | (with_reducible refine Below.alloc ?_ ?_ _) | (with_reducible refine Below.drew ?_) | (with_reducible refine Below.setCell ?_ ?_ _) | (with_reducible refine bstep (by assumption) ?_ ?_) | (with_reducible exact Nat.le_refl _) | omega | (simp [*]; done) | (simp [*]; omega)))
  have z0 : w.heap.size + 3 ≤ v0.heap.size := by rw [hv0]; simp [size_set]
  have HP_0 := Lib.hid (HP.out.below f0)
  have HP_lt := Lib.hid (fun hn => HP.out.lt hn)
  have HQ_0 := Lib.hid (HQ.out.below f0)
  have HQ_lt := Lib.hid (fun hn => HQ.out.lt hn)
  have Ha_0 : Hid (Blk v0 w.heap.size 37 #[.int .i64 i0, .int .i64 t0, .slice A n c, .slice B m d, .int .i64 l0, .int .i64 l1, .int .i64 l2]) := by rw [hv0]; exact ((Blk.new_at _ _ _ _ (by simp)).alloc _).alloc _
  have Hb_0 : Hid (Blk v0 (w.heap.size + 1) 43 #[.int .i64 ex, .int .i64 et, .int .i64 ec, .int .i64 es, .int .i64 1, .int .i64 ea, .int .i64 eb, .int .i64 eg, .int .i64 eh]) := by rw [hv0]; exact (Blk.new_at _ _ _ _ (by simp)).alloc _
  have Hr_0 : Hid (Blk v0 (w.heap.size + 1 + 1) 37 #[.int .i64 0, .int .i64 0, .slice none 0 0, .slice none 0 0, .int .i64 0, .int .i64 0, .int .i64 0]) := by rw [hv0]; exact Blk.new_at _ _ _ _ (by simp)
  clear hv0
  generalize hg2 : w.heap.size + 1 + 1 = g2 at *
  generalize hg1 : w.heap.size + 1 = g1 at *
  have lg1 : w.heap.size < g1 := by omega
  have lg2 : g1 < g2 := by omega
  have lgz : g2 < v0.heap.size := by omega
  have nq1x0 : ¬ g1 = w.heap.size := by omega
  have nq0x1 : ¬ w.heap.size = g1 := by omega
  have nq2x0 : ¬ g2 = w.heap.size := by omega
  have nq0x2 : ¬ w.heap.size = g2 := by omega
  have nq2x1 : ¬ g2 = g1 := by omega
  have nq1x2 : ¬ g1 = g2 := by omega
  clear hg1 hg2
  have lt_a := Ha_0.out.lt
  obtain ⟨r_a0, r_a1, r_a2, r_a3, r_a4, r_a5, r_a6⟩ := bc7 Ha_0.out
  have lt_b := Hb_0.out.lt
  obtain ⟨r_b0, r_b1, r_b2, r_b3, r_b4, r_b5, r_b6, r_b7, r_b8⟩ := bc9 Hb_0.out
  go_cut [6, 7] (fun pv ov wx => ∃ (g : Nat) (A1 : Option Addr) (n1 c1 : Nat) (B1 : Option Addr) (m1 d1 : Nat) (x0 x1 x2 : Int), pv = .pointer (some ⟨g, 0, none⟩) ∧ ov = .bool false ∧ g2 < g ∧ v0.heap.size ≤ g ∧ Hid (Blk wx g 37 #[.int .i64 i0, .int .i64 t0, .slice A1 n1 c1, .slice B1 m1 d1, .int .i64 x0, .int .i64 x1, .int .i64 x2]) ∧ Hid (Below v0.heap.size v0 wx))
  case first =>
    have hnm : n ≤ maxLen := by unfold maxLen; omega
    have hmm : m ≤ maxLen := by unfold maxLen; omega
    have hS0 : ∀ b o, b < v0.heap.size → v0.cell? ⟨b, o, none⟩ = v0.cell? ⟨b, o, none⟩ := fun b o hb => rfl
    have ix : ∀ wz : World, (Instr.index 116 (.agg #[.nilFunc, .func (.func 97) #[] #[], .func (.func 99) #[] #[], .func (.func 101) #[] #[], .func (.func 103) #[] #[], .func (.func 107) #[] #[]]) (.int .i64 1)).run Tryz.prog wz = .ok (.func (.func 97) #[] #[]) wz := fun _ => by kernel_rfl
    go_region_held_law (fun w' => ∀ b o, b < v0.heap.size → w'.cell? ⟨b, o, none⟩ = v0.cell? ⟨b, o, none⟩) (repeat' (first | with_reducible assumption | with_reducible exact Nat.le_refl _ | with_reducible exact hS0 | with_reducible refine hl_drew ?_ | with_reducible refine hl_alloc ?_ ?_ _ | with_reducible refine hl_set7 ?_ ?_ _ _ _ _ _ _ _)) (first | (go_at_call 82; refine (effects_any _).mono ?_; rintro e u1 ⟨rfl, b1⟩; (first | (have KB : Blk u1 v0.heap.size 37 #[.int .i64 0, .int .i64 0, .slice none 0 0, .slice none 0 0, .int .i64 0, .int .i64 0, .int .i64 0] := by with_reducible exact t_below2 b1 (Blk.new_at _ _ _ _ rfl)) | (have KB : Blk u1 v0.heap.size 37 #[.int .i64 0, .int .i64 0, .slice none 0 0, .slice none 0 0, .int .i64 0, .int .i64 0, .int .i64 0] := by with_reducible exact t_below2 b1 (Blk.drew (Blk.new_at _ _ _ _ rfl))) | (have KB : Blk u1 v0.heap.size 37 #[.int .i64 0, .int .i64 0, .slice none 0 0, .slice none 0 0, .int .i64 0, .int .i64 0, .int .i64 0] := by with_reducible exact t_below2 b1 (Blk.new_at _ _ _ _ (t_drew_size _))) | (replace KB := t_below2 b1 KB) | (replace KB := t_below2 b1 (Blk.drew KB)) | skip); have E1 : Below v0.heap.size v0 u1 := (by first | with_reducible exact b1 | with_reducible exact tb_dr b1 | with_reducible exact tb_al b1 | with_reducible exact tb_da b1 | with_reducible exact tb_ad b1); have H1 := E1; have y1 := H1.size; have hS1 : ∀ b o, b < v0.heap.size → u1.cell? ⟨b, o, none⟩ = v0.cell? ⟨b, o, none⟩ := fun b o hb => H1.cell (p := ⟨b, o, none⟩) hb; have HPu := Lib.hid (HP_0.out.below E1); have HQu := Lib.hid (HQ_0.out.below E1)) | (go_at_call 97; refine (eff1_R A n c B m d i0 t0 l0 l1 l2 pl ql ex et ec es ea eb eg eh _ (by first | with_reducible exact HPu.out | with_reducible exact Sl.alloc HPu.out _) (by first | with_reducible exact HQu.out | with_reducible exact Sl.alloc HQu.out _) hL.out hR.out hnm hmm HA.out HB.out w.heap.size HP_lt.out HQ_lt.out p2 q2 h2 e2 u2 false hE).mono ?_; rintro e u2_ ⟨A1, n1, c1, B1, m1, d1, x0, x1, x2, rfl, b2, hx⟩; (first | (have KB : Blk u2_ u1.heap.size 37 #[.int .i64 0, .int .i64 0, .slice none 0 0, .slice none 0 0, .int .i64 0, .int .i64 0, .int .i64 0] := by with_reducible exact t_below2 b2 (Blk.new_at _ _ _ _ rfl)) | (have KB : Blk u2_ u1.heap.size 37 #[.int .i64 0, .int .i64 0, .slice none 0 0, .slice none 0 0, .int .i64 0, .int .i64 0, .int .i64 0] := by with_reducible exact t_below2 b2 (Blk.drew (Blk.new_at _ _ _ _ rfl))) | (have KB : Blk u2_ u1.heap.size 37 #[.int .i64 0, .int .i64 0, .slice none 0 0, .slice none 0 0, .int .i64 0, .int .i64 0, .int .i64 0] := by with_reducible exact t_below2 b2 (Blk.new_at _ _ _ _ (t_drew_size _))) | (replace KB := t_below2 b2 KB) | (replace KB := t_below2 b2 (Blk.drew KB)) | skip); have E2 : Below u1.heap.size u1 u2_ := (by first | with_reducible exact b2 | with_reducible exact tb_dr b2 | with_reducible exact tb_al b2 | with_reducible exact tb_da b2 | with_reducible exact tb_ad b2); have H2 := bthen H1 E2; have y2 := H2.size; have hS2 : ∀ b o, b < v0.heap.size → u2_.cell? ⟨b, o, none⟩ = v0.cell? ⟨b, o, none⟩ := fun b o hb => H2.cell (p := ⟨b, o, none⟩) hb; (try (have kb0 := KB.cell 0)); (try (have kf0 := KB.frozen 0)); (try (have kb1 := KB.cell 1)); (try (have kf1 := KB.frozen 1)); (try (have kb2 := KB.cell 2)); (try (have kf2 := KB.frozen 2)); (try (have kb3 := KB.cell 3)); (try (have kf3 := KB.frozen 3)); (try (have kb4 := KB.cell 4)); (try (have kf4 := KB.frozen 4)); (try (have kb5 := KB.cell 5)); (try (have kf5 := KB.frozen 5)); (try (have kb6 := KB.cell 6)); (try (have kf6 := KB.frozen 6)); (try (have kbl := KB.lt))))
    all_goals
      have s1 := b1.size
      have s2 := b2.size
      (try simp only [t_size_alloc, ← t_drew_size] at s1)
      (try simp only [t_size_alloc, ← t_drew_size] at s2)
      go_wp2_with fail
      go_meet
      first
        | (with_reducible refine ⟨u2_.heap.size, A1, n1, c1, B1, m1, d1, x0, x1, x2, rfl, rfl, ?_, ?_, ?_, ?_⟩
           · omega
           · omega
           · exact Lib.hid (Blk.new_at _ _ _ _ rfl)
           · exact Lib.hid (H2.alloc y2 _))
        | (with_reducible refine ⟨u1.heap.size, A1, n1, c1, B1, m1, d1, x0, x1, x2, rfl, rfl, ?_, ?_, ?_, ?_⟩
           · omega
           · omega
           · exact Lib.hid (((((((KB.set_ 0 _).set_ 1 _).set_ 2 _).set_ 3 _).set_ 4 _).set_ 5 _).set_ 6 _)
           · exact Lib.hid (below_far7 H2 (by omega) _ _ _ _ _ _ _))
        | (with_reducible refine ⟨v0.heap.size, A1, n1, c1, B1, m1, d1, x0, x1, x2, rfl, rfl, ?_, ?_, ?_, ?_⟩
           · omega
           · omega
           · exact Lib.hid (((((((KB.set_ 0 _).set_ 1 _).set_ 2 _).set_ 3 _).set_ 4 _).set_ 5 _).set_ 6 _)
           · exact Lib.hid (below_far7 H2 (by omega) _ _ _ _ _ _ _))
  case rest =>
    obtain ⟨g, A1, n1, c1, B1, m1, d1, x0, x1, x2, rfl, rfl, hg2, hgz, KX, E1⟩ := hcut
    rename World => v1
    clear lt_a r_a0 r_a1 r_a2 r_a3 r_a4 r_a5 r_a6 lt_b r_b0 r_b1 r_b2 r_b3 r_b4 r_b5 r_b6 r_b7 r_b8
    have F1 := Lib.hid (bthen f0 E1.out)
    have y1 := E1.out.size
    have Ka := Lib.hid (Ha_0.out.below E1.out)
    have Kb := Lib.hid (Hb_0.out.below E1.out)
    have Kr := Lib.hid (Hr_0.out.below E1.out)
    have HP1 := Lib.hid (HP_0.out.below E1.out)
    have HQ1 := Lib.hid (HQ_0.out.below E1.out)
    clear Ha_0 Hb_0 Hr_0 HP_0 HQ_0 HP_lt HQ_lt HP HQ
    have lt_a := Ka.out.lt
    obtain ⟨r_a0, r_a1, r_a2, r_a3, r_a4, r_a5, r_a6⟩ := bc7 Ka.out
    have lt_x := KX.out.lt
    have r_x0 : v1.cell? ⟨g, 0, none⟩ = some (.int .i64 i0) := KX.out.cell 0
    have z_x0 := KX.out.frozen 0
    have r_x1 : v1.cell? ⟨g, 1, none⟩ = some (.int .i64 t0) := KX.out.cell 1
    have z_x1 := KX.out.frozen 1
    have r_x2 : v1.cell? ⟨g, 2, none⟩ = some (.slice A1 n1 c1) := KX.out.cell 2
    have z_x2 := KX.out.frozen 2
    have r_x3 : v1.cell? ⟨g, 3, none⟩ = some (.slice B1 m1 d1) := KX.out.cell 3
    have z_x3 := KX.out.frozen 3
    have r_x4 : v1.cell? ⟨g, 4, none⟩ = some (.int .i64 x0) := KX.out.cell 4
    have z_x4 := KX.out.frozen 4
    have r_x5 : v1.cell? ⟨g, 5, none⟩ = some (.int .i64 x1) := KX.out.cell 5
    have z_x5 := KX.out.frozen 5
    have r_x6 : v1.cell? ⟨g, 6, none⟩ = some (.int .i64 x2) := KX.out.cell 6
    have z_x6 := KX.out.frozen 6
    go_wp2_with fail
    refine (copyState_any A n c B m d i0 t0 l0 l1 l2 pl ql _ HP1.out HQ1.out hL.out hR.out hn hm HA.out HB.out).mono ?_
    rintro e v2 ⟨A5, c5, B5, d5, rfl, R5, R6, hap, b2⟩
    clear lt_a r_a0 r_a1 r_a2 r_a3 r_a4 r_a5 r_a6
    clear lt_x r_x0 z_x0 r_x1 z_x1 r_x2 z_x2 r_x3 z_x3 r_x4 z_x4 r_x5 z_x5 r_x6 z_x6
    have Kb2 := Kb.out.below b2
    have Kr2 := Kr.out.below b2
    have KX2 := KX.out.below b2
    have F2 := bthen F1.out b2
    have y2 := b2.size
    have lx := KX.out.lt
    have n5 : ∀ a, A5 = some a → a.block ≠ g := fun a ha => by have := R5.ge a ha; omega
    have n6 : ∀ a, B5 = some a → a.block ≠ g := fun a ha => by have := R6.ge a ha; omega
    have m5 : ∀ a, A5 = some a → a.block ≠ g2 := fun a ha => by have := R5.ge a ha; omega
    have m6 : ∀ a, B5 = some a → a.block ≠ g2 := fun a ha => by have := R6.ge a ha; omega
    have HM := Lib.hid (And.intro n5 (And.intro n6 (And.intro m5 m6)))
    have HAP := Lib.hid hap
    clear n5 n6 m5 m6 hap Ka Kb Kr KX F1 HP1 HQ1
    have lt_x := KX2.lt
    have r_x0 : v2.cell? ⟨g, 0, none⟩ = some (.int .i64 i0) := KX2.cell 0
    have z_x0 := KX2.frozen 0
    have r_x1 : v2.cell? ⟨g, 1, none⟩ = some (.int .i64 t0) := KX2.cell 1
    have z_x1 := KX2.frozen 1
    have r_x2 : v2.cell? ⟨g, 2, none⟩ = some (.slice A1 n1 c1) := KX2.cell 2
    have z_x2 := KX2.frozen 2
    have r_x3 : v2.cell? ⟨g, 3, none⟩ = some (.slice B1 m1 d1) := KX2.cell 3
    have z_x3 := KX2.frozen 3
    have r_x4 : v2.cell? ⟨g, 4, none⟩ = some (.int .i64 x0) := KX2.cell 4
    have z_x4 := KX2.frozen 4
    have r_x5 : v2.cell? ⟨g, 5, none⟩ = some (.int .i64 x1) := KX2.cell 5
    have z_x5 := KX2.frozen 5
    have r_x6 : v2.cell? ⟨g, 6, none⟩ = some (.int .i64 x2) := KX2.cell 6
    have z_x6 := KX2.frozen 6
    go_upto_region 4 with fail
    obtain ⟨v3, hv3⟩ : ∃ x : World, x = (((((((v2.setCell ⟨g, 0, none⟩ (.int .i64 i0)).setCell ⟨g, 1, none⟩ (.int .i64 t0)).setCell ⟨g, 2, none⟩ (.slice A5 n c5)).setCell ⟨g, 3, none⟩ (.slice B5 m d5)).setCell ⟨g, 4, none⟩ (.int .i64 l0)).setCell ⟨g, 5, none⟩ (.int .i64 l1)).setCell ⟨g, 6, none⟩ (.int .i64 l2)) := ⟨_, rfl⟩
    rw [← hv3]
    have KX : Hid (Blk v3 g 37 #[.int .i64 i0, .int .i64 t0, .slice A5 n c5, .slice B5 m d5, .int .i64 l0, .int .i64 l1, .int .i64 l2]) := by rw [hv3]; exact ((((((KX2.set_ 0 _).set_ 1 _).set_ 2 _).set_ 3 _).set_ 4 _).set_ 5 _).set_ 6 _
    have Kb : Hid (Blk v3 g1 43 #[.int .i64 ex, .int .i64 et, .int .i64 ec, .int .i64 es, .int .i64 1, .int .i64 ea, .int .i64 eb, .int .i64 eg, .int .i64 eh]) := by rw [hv3]; exact (((((((Kb2).far (p := ⟨g, 0, none⟩) (show g1 ≠ g by omega) _).far (p := ⟨g, 1, none⟩) (show g1 ≠ g by omega) _).far (p := ⟨g, 2, none⟩) (show g1 ≠ g by omega) _).far (p := ⟨g, 3, none⟩) (show g1 ≠ g by omega) _).far (p := ⟨g, 4, none⟩) (show g1 ≠ g by omega) _).far (p := ⟨g, 5, none⟩) (show g1 ≠ g by omega) _).far (p := ⟨g, 6, none⟩) (show g1 ≠ g by omega) _
    have Kr : Hid (Blk v3 g2 37 #[.int .i64 0, .int .i64 0, .slice none 0 0, .slice none 0 0, .int .i64 0, .int .i64 0, .int .i64 0]) := by rw [hv3]; exact (((((((Kr2).far (p := ⟨g, 0, none⟩) (show g2 ≠ g by omega) _).far (p := ⟨g, 1, none⟩) (show g2 ≠ g by omega) _).far (p := ⟨g, 2, none⟩) (show g2 ≠ g by omega) _).far (p := ⟨g, 3, none⟩) (show g2 ≠ g by omega) _).far (p := ⟨g, 4, none⟩) (show g2 ≠ g by omega) _).far (p := ⟨g, 5, none⟩) (show g2 ≠ g by omega) _).far (p := ⟨g, 6, none⟩) (show g2 ≠ g by omega) _
    have F1 : Hid (Below w.heap.size w v3) := by rw [hv3]; exact below_far7 F2 (by omega) _ _ _ _ _ _ _
    have RP : Hid (Row v3 w.heap.size 106 2 A5 n c5 (PR pl)) := by rw [hv3]; exact row_far7 (R5.mono (by omega)) HM.out.1 _ _ _ _ _ _ _
    have RQ : Hid (Row v3 w.heap.size 71 5 B5 m d5 (JB ql)) := by rw [hv3]; exact row_far7 (R6.mono (by omega)) HM.out.2.1 _ _ _ _ _ _ _
    clear hv3 Kb2 Kr2 KX2 F2 R5 R6 b2
    clear lt_x r_x0 z_x0 r_x1 z_x1 r_x2 z_x2 r_x3 z_x3 r_x4 z_x4 r_x5 z_x5 r_x6 z_x6
    have lt_b := Kb.out.lt
    obtain ⟨r_b0, r_b1, r_b2, r_b3, r_b4, r_b5, r_b6, r_b7, r_b8⟩ := bc9 Kb.out
    have lt_x := KX.out.lt
    have r_x0 : v3.cell? ⟨g, 0, none⟩ = some (.int .i64 i0) := KX.out.cell 0
    have z_x0 := KX.out.frozen 0
    have r_x1 : v3.cell? ⟨g, 1, none⟩ = some (.int .i64 t0) := KX.out.cell 1
    have z_x1 := KX.out.frozen 1
    have r_x2 : v3.cell? ⟨g, 2, none⟩ = some (.slice A5 n c5) := KX.out.cell 2
    have z_x2 := KX.out.frozen 2
    have r_x3 : v3.cell? ⟨g, 3, none⟩ = some (.slice B5 m d5) := KX.out.cell 3
    have z_x3 := KX.out.frozen 3
    have r_x4 : v3.cell? ⟨g, 4, none⟩ = some (.int .i64 l0) := KX.out.cell 4
    have z_x4 := KX.out.frozen 4
    have r_x5 : v3.cell? ⟨g, 5, none⟩ = some (.int .i64 l1) := KX.out.cell 5
    have z_x5 := KX.out.frozen 5
    have r_x6 : v3.cell? ⟨g, 6, none⟩ = some (.int .i64 l2) := KX.out.cell 6
    have z_x6 := KX.out.frozen 6
    have ngb : ¬ g = g1 := by omega
    have nbg : ¬ g1 = g := by omega
    go_cut [] (fun wx => Hid (Blk wx g 37 #[.int .i64 ex, .int .i64 et, .slice A5 n c5, .slice B5 m d5, .int .i64 l0, .int .i64 l1, .int .i64 l2]) ∧ Hid (Below w.heap.size w wx) ∧ Hid (Blk wx g2 37 #[.int .i64 0, .int .i64 0, .slice none 0 0, .slice none 0 0, .int .i64 0, .int .i64 0, .int .i64 0]) ∧ Hid (Row wx w.heap.size 106 2 A5 n c5 (PR pl)) ∧ Hid (Row wx w.heap.size 71 5 B5 m d5 (JB ql)))
    case first =>
      have hS0 : ∀ b o, b < g → v3.cell? ⟨b, o, none⟩ = v3.cell? ⟨b, o, none⟩ := fun b o hb => rfl
      have lbg : g1 < g := by omega
      go_region_held_law (fun w' => ∀ b o, b < g → w'.cell? ⟨b, o, none⟩ = v3.cell? ⟨b, o, none⟩) (repeat' (first | with_reducible assumption | with_reducible exact Nat.le_refl _ | with_reducible exact hS0 | with_reducible refine hl_drew ?_ | with_reducible refine hl_set ?_ ?_ _ _)) (fail)
      all_goals
        go_wp2_with fail
        go_meet
        first
          | exact ⟨Lib.hid (((KX.out.drew).set_ 0 _).set_ 1 _), Lib.hid (((F1.out.drew).setCell (p := ⟨g, 0, none⟩) (by show w.heap.size ≤ g; omega) _).setCell (p := ⟨g, 1, none⟩) (by show w.heap.size ≤ g; omega) _), Lib.hid (((Kr.out.drew).far (p := ⟨g, 0, none⟩) (show g2 ≠ g by omega) _).far (p := ⟨g, 1, none⟩) (show g2 ≠ g by omega) _), Lib.hid (((RP.out.drew).far (p := ⟨g, 0, none⟩) HM.out.1 _).far (p := ⟨g, 1, none⟩) HM.out.1 _), Lib.hid (((RQ.out.drew).far (p := ⟨g, 0, none⟩) HM.out.2.1 _).far (p := ⟨g, 1, none⟩) HM.out.2.1 _)⟩
          | exact ⟨Lib.hid (((KX.out.drew).set_ 1 _).set_ 0 _), Lib.hid (((F1.out.drew).setCell (p := ⟨g, 1, none⟩) (by show w.heap.size ≤ g; omega) _).setCell (p := ⟨g, 0, none⟩) (by show w.heap.size ≤ g; omega) _), Lib.hid (((Kr.out.drew).far (p := ⟨g, 1, none⟩) (show g2 ≠ g by omega) _).far (p := ⟨g, 0, none⟩) (show g2 ≠ g by omega) _), Lib.hid (((RP.out.drew).far (p := ⟨g, 1, none⟩) HM.out.1 _).far (p := ⟨g, 0, none⟩) HM.out.1 _), Lib.hid (((RQ.out.drew).far (p := ⟨g, 1, none⟩) HM.out.2.1 _).far (p := ⟨g, 0, none⟩) HM.out.2.1 _)⟩
    case rest =>
      clear lt_b r_b0 r_b1 r_b2 r_b3 r_b4 r_b5 r_b6 r_b7 r_b8
      clear lt_x r_x0 z_x0 r_x1 z_x1 r_x2 z_x2 r_x3 z_x3 r_x4 z_x4 r_x5 z_x5 r_x6 z_x6
      obtain ⟨KX2, F2, Kr2, RP2, RQ2⟩ := hcut
      rename World => v4
      clear KX
      clear Kb Kr RP RQ F1
      have ngr : ¬ g = g2 := by omega
      have nrg : ¬ g2 = g := by omega
      have lt_x := KX2.out.lt
      have r_x0 : v4.cell? ⟨g, 0, none⟩ = some (.int .i64 ex) := KX2.out.cell 0
      have z_x0 := KX2.out.frozen 0
      have r_x1 : v4.cell? ⟨g, 1, none⟩ = some (.int .i64 et) := KX2.out.cell 1
      have z_x1 := KX2.out.frozen 1
      have r_x2 : v4.cell? ⟨g, 2, none⟩ = some (.slice A5 n c5) := KX2.out.cell 2
      have z_x2 := KX2.out.frozen 2
      have r_x3 : v4.cell? ⟨g, 3, none⟩ = some (.slice B5 m d5) := KX2.out.cell 3
      have z_x3 := KX2.out.frozen 3
      have r_x4 : v4.cell? ⟨g, 4, none⟩ = some (.int .i64 l0) := KX2.out.cell 4
      have z_x4 := KX2.out.frozen 4
      have r_x5 : v4.cell? ⟨g, 5, none⟩ = some (.int .i64 l1) := KX2.out.cell 5
      have z_x5 := KX2.out.frozen 5
      have r_x6 : v4.cell? ⟨g, 6, none⟩ = some (.int .i64 l2) := KX2.out.cell 6
      have z_x6 := KX2.out.frozen 6
      have lt_r := Kr2.out.lt
      have r_r0 : v4.cell? ⟨g2, 0, none⟩ = some (.int .i64 0) := Kr2.out.cell 0
      have z_r0 := Kr2.out.frozen 0
      have r_r1 : v4.cell? ⟨g2, 1, none⟩ = some (.int .i64 0) := Kr2.out.cell 1
      have z_r1 := Kr2.out.frozen 1
      have r_r2 : v4.cell? ⟨g2, 2, none⟩ = some (.slice none 0 0) := Kr2.out.cell 2
      have z_r2 := Kr2.out.frozen 2
      have r_r3 : v4.cell? ⟨g2, 3, none⟩ = some (.slice none 0 0) := Kr2.out.cell 3
      have z_r3 := Kr2.out.frozen 3
      have r_r4 : v4.cell? ⟨g2, 4, none⟩ = some (.int .i64 0) := Kr2.out.cell 4
      have z_r4 := Kr2.out.frozen 4
      have r_r5 : v4.cell? ⟨g2, 5, none⟩ = some (.int .i64 0) := Kr2.out.cell 5
      have z_r5 := Kr2.out.frozen 5
      have r_r6 : v4.cell? ⟨g2, 6, none⟩ = some (.int .i64 0) := Kr2.out.cell 6
      have z_r6 := Kr2.out.frozen 6
      go_wp21
      refine bodyPost_ret (v := .tuple #[.agg #[.int .i64 ex, .int .i64 et, .slice A5 n c5, .slice B5 m d5, .int .i64 l0, .int .i64 l1, .int .i64 l2], .int .i64 0]) (by simp [results, Tryz.results43, go_sem, *]) rfl ?_
      exact RetStateV.mk hL.out hR.out (row_far7 RP2.out HM.out.2.2.1 _ _ _ _ _ _ _) (row_far7 RQ2.out HM.out.2.2.2 _ _ _ _ _ _ _) HAP.out (below_far7 F2.out (show w.heap.size ≤ g2 by omega) _ _ _ _ _ _ _)
end Go.Proofs.YtokklkmibjpjnaaGreat
namespace Go.Proofs.YtokklkmibjpjnaaGreat
set_option linter.unusedSimpArgs false
set_option linter.unusedVariables false
attribute [local go_sem] n_lt2 n_lt3 n_lt4 n_le2 n_le3
open Go.RowKit
attribute [local go_sem] Ext.cell Ext.frozen
set_option maxRecDepth 100000 in
set_option maxHeartbeats 8000000 in
theorem applied_no2 (A : Option Addr) (n c : Nat) (B : Option Addr) (m d : Nat) (i0 t0 l0 l1 l2 : Int) (pl : List Pr) (ql : List Jb) (ex et ec es ea eb eg eh : Int) (w : World) (hP : Sl w 2 A n (PR pl)) (hQ : Sl w 5 B m (JB ql)) (hl : pl.length = n) (hr : ql.length = m) (hn : n ≤ 1000) (hm : m ≤ 1000) (hA : A = none → n = 0 ∧ c = 0) (hB : B = none → m = 0 ∧ d = 0) (p2 : List Pr) (q2 : List Jb) (h2 e2 u2 : Int) (hE : Hid (effE l0 l1 l2 pl ql ex et ec es 2 ea eb eg eh = (⟨p2, q2, h2, e2, u2⟩, false))) :
    Calls Tryz.prog 43 #[.agg #[.int .i64 i0, .int .i64 t0, .slice A n c, .slice B m d, .int .i64 l0, .int .i64 l1, .int .i64 l2], .agg #[.int .i64 ex, .int .i64 et, .int .i64 ec, .int .i64 es, .int .i64 2, .int .i64 ea, .int .i64 eb, .int .i64 eg, .int .i64 eh]] w (RetStateV w ex et l0 l1 l2 pl.length (PR pl) ql.length (JB ql) (.int .i64 0)) := by
  have HP := Lib.hid hP
  have HQ := Lib.hid hQ
  have HA := Lib.hid hA
  have HB := Lib.hid hB
  have hL := Lib.hid hl
  have hR := Lib.hid hr
  clear hP hQ hA hB hl hr
  go_enter Tryz.func43, Tryz.ntmps43
  go_upto_region 1 with fail
  obtain ⟨v0, hv0⟩ : ∃ x : World, x = (((w.alloc (.cells #[.int .i64 i0, .int .i64 t0, .slice A n c, .slice B m d, .int .i64 l0, .int .i64 l1, .int .i64 l2] 37)).alloc (.cells #[.int .i64 ex, .int .i64 et, .int .i64 ec, .int .i64 es, .int .i64 2, .int .i64 ea, .int .i64 eb, .int .i64 eg, .int .i64 eh] 43)).alloc (.cells #[.int .i64 0, .int .i64 0, .slice none 0 0, .slice none 0 0, .int .i64 0, .int .i64 0, .int .i64 0] 37)) := ⟨_, rfl⟩
  rw [← hv0]
  have f0 : Below w.heap.size w v0 := by rw [hv0]; (repeat' (first | (with_reducible exact Below.refl _ _) | (with_reducible assumption) | (with_reducible refine Below.alloc ?_ ?_ _) | (with_reducible refine Below.drew ?_) | (with_reducible refine Below.setCell ?_ ?_ _) | (with_reducible refine bstep (by assumption) ?_ ?_) | (with_reducible exact Nat.le_refl _) | omega | (simp [*]; done) | (simp [*]; omega)))
  have z0 : w.heap.size + 3 ≤ v0.heap.size := by rw [hv0]; simp [size_set]
  have HP_0 := Lib.hid (HP.out.below f0)
  have HP_lt := Lib.hid (fun hn => HP.out.lt hn)
  have HQ_0 := Lib.hid (HQ.out.below f0)
  have HQ_lt := Lib.hid (fun hn => HQ.out.lt hn)
  have Ha_0 : Hid (Blk v0 w.heap.size 37 #[.int .i64 i0, .int .i64 t0, .slice A n c, .slice B m d, .int .i64 l0, .int .i64 l1, .int .i64 l2]) := by rw [hv0]; exact ((Blk.new_at _ _ _ _ (by simp)).alloc _).alloc _
  have Hb_0 : Hid (Blk v0 (w.heap.size + 1) 43 #[.int .i64 ex, .int .i64 et, .int .i64 ec, .int .i64 es, .int .i64 2, .int .i64 ea, .int .i64 eb, .int .i64 eg, .int .i64 eh]) := by rw [hv0]; exact (Blk.new_at _ _ _ _ (by simp)).alloc _
  have Hr_0 : Hid (Blk v0 (w.heap.size + 1 + 1) 37 #[.int .i64 0, .int .i64 0, .slice none 0 0, .slice none 0 0, .int .i64 0, .int .i64 0, .int .i64 0]) := by rw [hv0]; exact Blk.new_at _ _ _ _ (by simp)
  clear hv0
  generalize hg2 : w.heap.size + 1 + 1 = g2 at *
  generalize hg1 : w.heap.size + 1 = g1 at *
  have lg1 : w.heap.size < g1 := by omega
  have lg2 : g1 < g2 := by omega
  have lgz : g2 < v0.heap.size := by omega
  have nq1x0 : ¬ g1 = w.heap.size := by omega
  have nq0x1 : ¬ w.heap.size = g1 := by omega
  have nq2x0 : ¬ g2 = w.heap.size := by omega
  have nq0x2 : ¬ w.heap.size = g2 := by omega
  have nq2x1 : ¬ g2 = g1 := by omega
  have nq1x2 : ¬ g1 = g2 := by omega
  clear hg1 hg2
  have lt_a := Ha_0.out.lt
  obtain ⟨r_a0, r_a1, r_a2, r_a3, r_a4, r_a5, r_a6⟩ := bc7 Ha_0.out
  have lt_b := Hb_0.out.lt
  obtain ⟨r_b0, r_b1, r_b2, r_b3, r_b4, r_b5, r_b6, r_b7, r_b8⟩ := bc9 Hb_0.out
  go_cut [6, 7] (fun pv ov wx => ∃ (g : Nat) (A1 : Option Addr) (n1 c1 : Nat) (B1 : Option Addr) (m1 d1 : Nat) (x0 x1 x2 : Int), pv = .pointer (some ⟨g, 0, none⟩) ∧ ov = .bool false ∧ g2 < g ∧ v0.heap.size ≤ g ∧ Hid (Blk wx g 37 #[.int .i64 i0, .int .i64 t0, .slice A1 n1 c1, .slice B1 m1 d1, .int .i64 x0, .int .i64 x1, .int .i64 x2]) ∧ Hid (Below v0.heap.size v0 wx))
  case first =>
    have hnm : n ≤ maxLen := by unfold maxLen; omega
    have hmm : m ≤ maxLen := by unfold maxLen; omega
    have hS0 : ∀ b o, b < v0.heap.size → v0.cell? ⟨b, o, none⟩ = v0.cell? ⟨b, o, none⟩ := fun b o hb => rfl
    have ix : ∀ wz : World, (Instr.index 116 (.agg #[.nilFunc, .func (.func 97) #[] #[], .func (.func 99) #[] #[], .func (.func 101) #[] #[], .func (.func 103) #[] #[], .func (.func 107) #[] #[]]) (.int .i64 2)).run Tryz.prog wz = .ok (.func (.func 99) #[] #[]) wz := fun _ => by kernel_rfl
    go_region_held_law (fun w' => ∀ b o, b < v0.heap.size → w'.cell? ⟨b, o, none⟩ = v0.cell? ⟨b, o, none⟩) (repeat' (first | with_reducible assumption | with_reducible exact Nat.le_refl _ | with_reducible exact hS0 | with_reducible refine hl_drew ?_ | with_reducible refine hl_alloc ?_ ?_ _ | with_reducible refine hl_set7 ?_ ?_ _ _ _ _ _ _ _)) (first | (go_at_call 82; refine (effects_any _).mono ?_; rintro e u1 ⟨rfl, b1⟩; (first | (have KB : Blk u1 v0.heap.size 37 #[.int .i64 0, .int .i64 0, .slice none 0 0, .slice none 0 0, .int .i64 0, .int .i64 0, .int .i64 0] := by with_reducible exact t_below2 b1 (Blk.new_at _ _ _ _ rfl)) | (have KB : Blk u1 v0.heap.size 37 #[.int .i64 0, .int .i64 0, .slice none 0 0, .slice none 0 0, .int .i64 0, .int .i64 0, .int .i64 0] := by with_reducible exact t_below2 b1 (Blk.drew (Blk.new_at _ _ _ _ rfl))) | (have KB : Blk u1 v0.heap.size 37 #[.int .i64 0, .int .i64 0, .slice none 0 0, .slice none 0 0, .int .i64 0, .int .i64 0, .int .i64 0] := by with_reducible exact t_below2 b1 (Blk.new_at _ _ _ _ (t_drew_size _))) | (replace KB := t_below2 b1 KB) | (replace KB := t_below2 b1 (Blk.drew KB)) | skip); have E1 : Below v0.heap.size v0 u1 := (by first | with_reducible exact b1 | with_reducible exact tb_dr b1 | with_reducible exact tb_al b1 | with_reducible exact tb_da b1 | with_reducible exact tb_ad b1); have H1 := E1; have y1 := H1.size; have hS1 : ∀ b o, b < v0.heap.size → u1.cell? ⟨b, o, none⟩ = v0.cell? ⟨b, o, none⟩ := fun b o hb => H1.cell (p := ⟨b, o, none⟩) hb; have HPu := Lib.hid (HP_0.out.below E1); have HQu := Lib.hid (HQ_0.out.below E1)) | (go_at_call 99; refine (eff2_R A n c B m d i0 t0 l0 l1 l2 pl ql ex et ec es ea eb eg eh _ (by first | with_reducible exact HPu.out | with_reducible exact Sl.alloc HPu.out _) (by first | with_reducible exact HQu.out | with_reducible exact Sl.alloc HQu.out _) hL.out hR.out hnm hmm HA.out HB.out w.heap.size HP_lt.out HQ_lt.out p2 q2 h2 e2 u2 false hE).mono ?_; rintro e u2_ ⟨A1, n1, c1, B1, m1, d1, x0, x1, x2, rfl, b2, hx⟩; (first | (have KB : Blk u2_ u1.heap.size 37 #[.int .i64 0, .int .i64 0, .slice none 0 0, .slice none 0 0, .int .i64 0, .int .i64 0, .int .i64 0] := by with_reducible exact t_below2 b2 (Blk.new_at _ _ _ _ rfl)) | (have KB : Blk u2_ u1.heap.size 37 #[.int .i64 0, .int .i64 0, .slice none 0 0, .slice none 0 0, .int .i64 0, .int .i64 0, .int .i64 0] := by with_reducible exact t_below2 b2 (Blk.drew (Blk.new_at _ _ _ _ rfl))) | (have KB : Blk u2_ u1.heap.size 37 #[.int .i64 0, .int .i64 0, .slice none 0 0, .slice none 0 0, .int .i64 0, .int .i64 0, .int .i64 0] := by with_reducible exact t_below2 b2 (Blk.new_at _ _ _ _ (t_drew_size _))) | (replace KB := t_below2 b2 KB) | (replace KB := t_below2 b2 (Blk.drew KB)) | skip); have E2 : Below u1.heap.size u1 u2_ := (by first | with_reducible exact b2 | with_reducible exact tb_dr b2 | with_reducible exact tb_al b2 | with_reducible exact tb_da b2 | with_reducible exact tb_ad b2); have H2 := bthen H1 E2; have y2 := H2.size; have hS2 : ∀ b o, b < v0.heap.size → u2_.cell? ⟨b, o, none⟩ = v0.cell? ⟨b, o, none⟩ := fun b o hb => H2.cell (p := ⟨b, o, none⟩) hb; (try (have kb0 := KB.cell 0)); (try (have kf0 := KB.frozen 0)); (try (have kb1 := KB.cell 1)); (try (have kf1 := KB.frozen 1)); (try (have kb2 := KB.cell 2)); (try (have kf2 := KB.frozen 2)); (try (have kb3 := KB.cell 3)); (try (have kf3 := KB.frozen 3)); (try (have kb4 := KB.cell 4)); (try (have kf4 := KB.frozen 4)); (try (have kb5 := KB.cell 5)); (try (have kf5 := KB.frozen 5)); (try (have kb6 := KB.cell 6)); (try (have kf6 := KB.frozen 6)); (try (have kbl := KB.lt))))
    all_goals
      have s1 := b1.size
      have s2 := b2.size
      (try simp only [t_size_alloc, ← t_drew_size] at s1)
      (try simp only [t_size_alloc, ← t_drew_size] at s2)
      go_wp2_with fail
      go_meet
      first
        | (with_reducible refine ⟨u2_.heap.size, A1, n1, c1, B1, m1, d1, x0, x1, x2, rfl, rfl, ?_, ?_, ?_, ?_⟩
           · omega
           · omega
           · exact Lib.hid (Blk.new_at _ _ _ _ rfl)
           · exact Lib.hid (H2.alloc y2 _))
        | (with_reducible refine ⟨u1.heap.size, A1, n1, c1, B1, m1, d1, x0, x1, x2, rfl, rfl, ?_, ?_, ?_, ?_⟩
           · omega
           · omega
           · exact Lib.hid (((((((KB.set_ 0 _).set_ 1 _).set_ 2 _).set_ 3 _).set_ 4 _).set_ 5 _).set_ 6 _)
           · exact Lib.hid (below_far7 H2 (by omega) _ _ _ _ _ _ _))
        | (with_reducible refine ⟨v0.heap.size, A1, n1, c1, B1, m1, d1, x0, x1, x2, rfl, rfl, ?_, ?_, ?_, ?_⟩
           · omega
           · omega
           · exact Lib.hid (((((((KB.set_ 0 _).set_ 1 _).set_ 2 _).set_ 3 _).set_ 4 _).set_ 5 _).set_ 6 _)
           · exact Lib.hid (below_far7 H2 (by omega) _ _ _ _ _ _ _))
  case rest =>
    obtain ⟨g, A1, n1, c1, B1, m1, d1, x0, x1, x2, rfl, rfl, hg2, hgz, KX, E1⟩ := hcut
    rename World => v1
    clear lt_a r_a0 r_a1 r_a2 r_a3 r_a4 r_a5 r_a6 lt_b r_b0 r_b1 r_b2 r_b3 r_b4 r_b5 r_b6 r_b7 r_b8
    have F1 := Lib.hid (bthen f0 E1.out)
    have y1 := E1.out.size
    have Ka := Lib.hid (Ha_0.out.below E1.out)
    have Kb := Lib.hid (Hb_0.out.below E1.out)
    have Kr := Lib.hid (Hr_0.out.below E1.out)
    have HP1 := Lib.hid (HP_0.out.below E1.out)
    have HQ1 := Lib.hid (HQ_0.out.below E1.out)
    clear Ha_0 Hb_0 Hr_0 HP_0 HQ_0 HP_lt HQ_lt HP HQ
    have lt_a := Ka.out.lt
    obtain ⟨r_a0, r_a1, r_a2, r_a3, r_a4, r_a5, r_a6⟩ := bc7 Ka.out
    have lt_x := KX.out.lt
    have r_x0 : v1.cell? ⟨g, 0, none⟩ = some (.int .i64 i0) := KX.out.cell 0
    have z_x0 := KX.out.frozen 0
    have r_x1 : v1.cell? ⟨g, 1, none⟩ = some (.int .i64 t0) := KX.out.cell 1
    have z_x1 := KX.out.frozen 1
    have r_x2 : v1.cell? ⟨g, 2, none⟩ = some (.slice A1 n1 c1) := KX.out.cell 2
    have z_x2 := KX.out.frozen 2
    have r_x3 : v1.cell? ⟨g, 3, none⟩ = some (.slice B1 m1 d1) := KX.out.cell 3
    have z_x3 := KX.out.frozen 3
    have r_x4 : v1.cell? ⟨g, 4, none⟩ = some (.int .i64 x0) := KX.out.cell 4
    have z_x4 := KX.out.frozen 4
    have r_x5 : v1.cell? ⟨g, 5, none⟩ = some (.int .i64 x1) := KX.out.cell 5
    have z_x5 := KX.out.frozen 5
    have r_x6 : v1.cell? ⟨g, 6, none⟩ = some (.int .i64 x2) := KX.out.cell 6
    have z_x6 := KX.out.frozen 6
    go_wp2_with fail
    refine (copyState_any A n c B m d i0 t0 l0 l1 l2 pl ql _ HP1.out HQ1.out hL.out hR.out hn hm HA.out HB.out).mono ?_
    rintro e v2 ⟨A5, c5, B5, d5, rfl, R5, R6, hap, b2⟩
    clear lt_a r_a0 r_a1 r_a2 r_a3 r_a4 r_a5 r_a6
    clear lt_x r_x0 z_x0 r_x1 z_x1 r_x2 z_x2 r_x3 z_x3 r_x4 z_x4 r_x5 z_x5 r_x6 z_x6
    have Kb2 := Kb.out.below b2
    have Kr2 := Kr.out.below b2
    have KX2 := KX.out.below b2
    have F2 := bthen F1.out b2
    have y2 := b2.size
    have lx := KX.out.lt
    have n5 : ∀ a, A5 = some a → a.block ≠ g := fun a ha => by have := R5.ge a ha; omega
    have n6 : ∀ a, B5 = some a → a.block ≠ g := fun a ha => by have := R6.ge a ha; omega
    have m5 : ∀ a, A5 = some a → a.block ≠ g2 := fun a ha => by have := R5.ge a ha; omega
    have m6 : ∀ a, B5 = some a → a.block ≠ g2 := fun a ha => by have := R6.ge a ha; omega
    have HM := Lib.hid (And.intro n5 (And.intro n6 (And.intro m5 m6)))
    have HAP := Lib.hid hap
    clear n5 n6 m5 m6 hap Ka Kb Kr KX F1 HP1 HQ1
    have lt_x := KX2.lt
    have r_x0 : v2.cell? ⟨g, 0, none⟩ = some (.int .i64 i0) := KX2.cell 0
    have z_x0 := KX2.frozen 0
    have r_x1 : v2.cell? ⟨g, 1, none⟩ = some (.int .i64 t0) := KX2.cell 1
    have z_x1 := KX2.frozen 1
    have r_x2 : v2.cell? ⟨g, 2, none⟩ = some (.slice A1 n1 c1) := KX2.cell 2
    have z_x2 := KX2.frozen 2
    have r_x3 : v2.cell? ⟨g, 3, none⟩ = some (.slice B1 m1 d1) := KX2.cell 3
    have z_x3 := KX2.frozen 3
    have r_x4 : v2.cell? ⟨g, 4, none⟩ = some (.int .i64 x0) := KX2.cell 4
    have z_x4 := KX2.frozen 4
    have r_x5 : v2.cell? ⟨g, 5, none⟩ = some (.int .i64 x1) := KX2.cell 5
    have z_x5 := KX2.frozen 5
    have r_x6 : v2.cell? ⟨g, 6, none⟩ = some (.int .i64 x2) := KX2.cell 6
    have z_x6 := KX2.frozen 6
    go_upto_region 4 with fail
    obtain ⟨v3, hv3⟩ : ∃ x : World, x = (((((((v2.setCell ⟨g, 0, none⟩ (.int .i64 i0)).setCell ⟨g, 1, none⟩ (.int .i64 t0)).setCell ⟨g, 2, none⟩ (.slice A5 n c5)).setCell ⟨g, 3, none⟩ (.slice B5 m d5)).setCell ⟨g, 4, none⟩ (.int .i64 l0)).setCell ⟨g, 5, none⟩ (.int .i64 l1)).setCell ⟨g, 6, none⟩ (.int .i64 l2)) := ⟨_, rfl⟩
    rw [← hv3]
    have KX : Hid (Blk v3 g 37 #[.int .i64 i0, .int .i64 t0, .slice A5 n c5, .slice B5 m d5, .int .i64 l0, .int .i64 l1, .int .i64 l2]) := by rw [hv3]; exact ((((((KX2.set_ 0 _).set_ 1 _).set_ 2 _).set_ 3 _).set_ 4 _).set_ 5 _).set_ 6 _
    have Kb : Hid (Blk v3 g1 43 #[.int .i64 ex, .int .i64 et, .int .i64 ec, .int .i64 es, .int .i64 2, .int .i64 ea, .int .i64 eb, .int .i64 eg, .int .i64 eh]) := by rw [hv3]; exact (((((((Kb2).far (p := ⟨g, 0, none⟩) (show g1 ≠ g by omega) _).far (p := ⟨g, 1, none⟩) (show g1 ≠ g by omega) _).far (p := ⟨g, 2, none⟩) (show g1 ≠ g by omega) _).far (p := ⟨g, 3, none⟩) (show g1 ≠ g by omega) _).far (p := ⟨g, 4, none⟩) (show g1 ≠ g by omega) _).far (p := ⟨g, 5, none⟩) (show g1 ≠ g by omega) _).far (p := ⟨g, 6, none⟩) (show g1 ≠ g by omega) _
    have Kr : Hid (Blk v3 g2 37 #[.int .i64 0, .int .i64 0, .slice none 0 0, .slice none 0 0, .int .i64 0, .int .i64 0, .int .i64 0]) := by rw [hv3]; exact (((((((Kr2).far (p := ⟨g, 0, none⟩) (show g2 ≠ g by omega) _).far (p := ⟨g, 1, none⟩) (show g2 ≠ g by omega) _).far (p := ⟨g, 2, none⟩) (show g2 ≠ g by omega) _).far (p := ⟨g, 3, none⟩) (show g2 ≠ g by omega) _).far (p := ⟨g, 4, none⟩) (show g2 ≠ g by omega) _).far (p := ⟨g, 5, none⟩) (show g2 ≠ g by omega) _).far (p := ⟨g, 6, none⟩) (show g2 ≠ g by omega) _
    have F1 : Hid (Below w.heap.size w v3) := by rw [hv3]; exact below_far7 F2 (by omega) _ _ _ _ _ _ _
    have RP : Hid (Row v3 w.heap.size 106 2 A5 n c5 (PR pl)) := by rw [hv3]; exact row_far7 (R5.mono (by omega)) HM.out.1 _ _ _ _ _ _ _
    have RQ : Hid (Row v3 w.heap.size 71 5 B5 m d5 (JB ql)) := by rw [hv3]; exact row_far7 (R6.mono (by omega)) HM.out.2.1 _ _ _ _ _ _ _
    clear hv3 Kb2 Kr2 KX2 F2 R5 R6 b2
    clear lt_x r_x0 z_x0 r_x1 z_x1 r_x2 z_x2 r_x3 z_x3 r_x4 z_x4 r_x5 z_x5 r_x6 z_x6
    have lt_b := Kb.out.lt
    obtain ⟨r_b0, r_b1, r_b2, r_b3, r_b4, r_b5, r_b6, r_b7, r_b8⟩ := bc9 Kb.out
    have lt_x := KX.out.lt
    have r_x0 : v3.cell? ⟨g, 0, none⟩ = some (.int .i64 i0) := KX.out.cell 0
    have z_x0 := KX.out.frozen 0
    have r_x1 : v3.cell? ⟨g, 1, none⟩ = some (.int .i64 t0) := KX.out.cell 1
    have z_x1 := KX.out.frozen 1
    have r_x2 : v3.cell? ⟨g, 2, none⟩ = some (.slice A5 n c5) := KX.out.cell 2
    have z_x2 := KX.out.frozen 2
    have r_x3 : v3.cell? ⟨g, 3, none⟩ = some (.slice B5 m d5) := KX.out.cell 3
    have z_x3 := KX.out.frozen 3
    have r_x4 : v3.cell? ⟨g, 4, none⟩ = some (.int .i64 l0) := KX.out.cell 4
    have z_x4 := KX.out.frozen 4
    have r_x5 : v3.cell? ⟨g, 5, none⟩ = some (.int .i64 l1) := KX.out.cell 5
    have z_x5 := KX.out.frozen 5
    have r_x6 : v3.cell? ⟨g, 6, none⟩ = some (.int .i64 l2) := KX.out.cell 6
    have z_x6 := KX.out.frozen 6
    have ngb : ¬ g = g1 := by omega
    have nbg : ¬ g1 = g := by omega
    go_cut [] (fun wx => Hid (Blk wx g 37 #[.int .i64 ex, .int .i64 et, .slice A5 n c5, .slice B5 m d5, .int .i64 l0, .int .i64 l1, .int .i64 l2]) ∧ Hid (Below w.heap.size w wx) ∧ Hid (Blk wx g2 37 #[.int .i64 0, .int .i64 0, .slice none 0 0, .slice none 0 0, .int .i64 0, .int .i64 0, .int .i64 0]) ∧ Hid (Row wx w.heap.size 106 2 A5 n c5 (PR pl)) ∧ Hid (Row wx w.heap.size 71 5 B5 m d5 (JB ql)))
    case first =>
      have hS0 : ∀ b o, b < g → v3.cell? ⟨b, o, none⟩ = v3.cell? ⟨b, o, none⟩ := fun b o hb => rfl
      have lbg : g1 < g := by omega
      go_region_held_law (fun w' => ∀ b o, b < g → w'.cell? ⟨b, o, none⟩ = v3.cell? ⟨b, o, none⟩) (repeat' (first | with_reducible assumption | with_reducible exact Nat.le_refl _ | with_reducible exact hS0 | with_reducible refine hl_drew ?_ | with_reducible refine hl_set ?_ ?_ _ _)) (fail)
      all_goals
        go_wp2_with fail
        go_meet
        first
          | exact ⟨Lib.hid (((KX.out.drew).set_ 0 _).set_ 1 _), Lib.hid (((F1.out.drew).setCell (p := ⟨g, 0, none⟩) (by show w.heap.size ≤ g; omega) _).setCell (p := ⟨g, 1, none⟩) (by show w.heap.size ≤ g; omega) _), Lib.hid (((Kr.out.drew).far (p := ⟨g, 0, none⟩) (show g2 ≠ g by omega) _).far (p := ⟨g, 1, none⟩) (show g2 ≠ g by omega) _), Lib.hid (((RP.out.drew).far (p := ⟨g, 0, none⟩) HM.out.1 _).far (p := ⟨g, 1, none⟩) HM.out.1 _), Lib.hid (((RQ.out.drew).far (p := ⟨g, 0, none⟩) HM.out.2.1 _).far (p := ⟨g, 1, none⟩) HM.out.2.1 _)⟩
          | exact ⟨Lib.hid (((KX.out.drew).set_ 1 _).set_ 0 _), Lib.hid (((F1.out.drew).setCell (p := ⟨g, 1, none⟩) (by show w.heap.size ≤ g; omega) _).setCell (p := ⟨g, 0, none⟩) (by show w.heap.size ≤ g; omega) _), Lib.hid (((Kr.out.drew).far (p := ⟨g, 1, none⟩) (show g2 ≠ g by omega) _).far (p := ⟨g, 0, none⟩) (show g2 ≠ g by omega) _), Lib.hid (((RP.out.drew).far (p := ⟨g, 1, none⟩) HM.out.1 _).far (p := ⟨g, 0, none⟩) HM.out.1 _), Lib.hid (((RQ.out.drew).far (p := ⟨g, 1, none⟩) HM.out.2.1 _).far (p := ⟨g, 0, none⟩) HM.out.2.1 _)⟩
    case rest =>
      clear lt_b r_b0 r_b1 r_b2 r_b3 r_b4 r_b5 r_b6 r_b7 r_b8
      clear lt_x r_x0 z_x0 r_x1 z_x1 r_x2 z_x2 r_x3 z_x3 r_x4 z_x4 r_x5 z_x5 r_x6 z_x6
      obtain ⟨KX2, F2, Kr2, RP2, RQ2⟩ := hcut
      rename World => v4
      clear KX
      clear Kb Kr RP RQ F1
      have ngr : ¬ g = g2 := by omega
      have nrg : ¬ g2 = g := by omega
      have lt_x := KX2.out.lt
      have r_x0 : v4.cell? ⟨g, 0, none⟩ = some (.int .i64 ex) := KX2.out.cell 0
      have z_x0 := KX2.out.frozen 0
      have r_x1 : v4.cell? ⟨g, 1, none⟩ = some (.int .i64 et) := KX2.out.cell 1
      have z_x1 := KX2.out.frozen 1
      have r_x2 : v4.cell? ⟨g, 2, none⟩ = some (.slice A5 n c5) := KX2.out.cell 2
      have z_x2 := KX2.out.frozen 2
      have r_x3 : v4.cell? ⟨g, 3, none⟩ = some (.slice B5 m d5) := KX2.out.cell 3
      have z_x3 := KX2.out.frozen 3
      have r_x4 : v4.cell? ⟨g, 4, none⟩ = some (.int .i64 l0) := KX2.out.cell 4
      have z_x4 := KX2.out.frozen 4
      have r_x5 : v4.cell? ⟨g, 5, none⟩ = some (.int .i64 l1) := KX2.out.cell 5
      have z_x5 := KX2.out.frozen 5
      have r_x6 : v4.cell? ⟨g, 6, none⟩ = some (.int .i64 l2) := KX2.out.cell 6
      have z_x6 := KX2.out.frozen 6
      have lt_r := Kr2.out.lt
      have r_r0 : v4.cell? ⟨g2, 0, none⟩ = some (.int .i64 0) := Kr2.out.cell 0
      have z_r0 := Kr2.out.frozen 0
      have r_r1 : v4.cell? ⟨g2, 1, none⟩ = some (.int .i64 0) := Kr2.out.cell 1
      have z_r1 := Kr2.out.frozen 1
      have r_r2 : v4.cell? ⟨g2, 2, none⟩ = some (.slice none 0 0) := Kr2.out.cell 2
      have z_r2 := Kr2.out.frozen 2
      have r_r3 : v4.cell? ⟨g2, 3, none⟩ = some (.slice none 0 0) := Kr2.out.cell 3
      have z_r3 := Kr2.out.frozen 3
      have r_r4 : v4.cell? ⟨g2, 4, none⟩ = some (.int .i64 0) := Kr2.out.cell 4
      have z_r4 := Kr2.out.frozen 4
      have r_r5 : v4.cell? ⟨g2, 5, none⟩ = some (.int .i64 0) := Kr2.out.cell 5
      have z_r5 := Kr2.out.frozen 5
      have r_r6 : v4.cell? ⟨g2, 6, none⟩ = some (.int .i64 0) := Kr2.out.cell 6
      have z_r6 := Kr2.out.frozen 6
      go_wp21
      refine bodyPost_ret (v := .tuple #[.agg #[.int .i64 ex, .int .i64 et, .slice A5 n c5, .slice B5 m d5, .int .i64 l0, .int .i64 l1, .int .i64 l2], .int .i64 0]) (by simp [results, Tryz.results43, go_sem, *]) rfl ?_
      exact RetStateV.mk hL.out hR.out (row_far7 RP2.out HM.out.2.2.1 _ _ _ _ _ _ _) (row_far7 RQ2.out HM.out.2.2.2 _ _ _ _ _ _ _) HAP.out (below_far7 F2.out (show w.heap.size ≤ g2 by omega) _ _ _ _ _ _ _)
end Go.Proofs.YtokklkmibjpjnaaGreat
namespace Go.Proofs.YtokklkmibjpjnaaGreat
set_option linter.unusedSimpArgs false
set_option linter.unusedVariables false
attribute [local go_sem] n_lt2 n_lt3 n_lt4 n_le2 n_le3
open Go.RowKit
attribute [local go_sem] Ext.cell Ext.frozen
set_option maxRecDepth 100000 in
set_option maxHeartbeats 8000000 in
theorem applied_no3 (A : Option Addr) (n c : Nat) (B : Option Addr) (m d : Nat) (i0 t0 l0 l1 l2 : Int) (pl : List Pr) (ql : List Jb) (ex et ec es ea eb eg eh : Int) (w : World) (hP : Sl w 2 A n (PR pl)) (hQ : Sl w 5 B m (JB ql)) (hl : pl.length = n) (hr : ql.length = m) (hn : n ≤ 1000) (hm : m ≤ 1000) (hA : A = none → n = 0 ∧ c = 0) (hB : B = none → m = 0 ∧ d = 0) (p2 : List Pr) (q2 : List Jb) (h2 e2 u2 : Int) (hE : Hid (effE l0 l1 l2 pl ql ex et ec es 3 ea eb eg eh = (⟨p2, q2, h2, e2, u2⟩, false))) :
    Calls Tryz.prog 43 #[.agg #[.int .i64 i0, .int .i64 t0, .slice A n c, .slice B m d, .int .i64 l0, .int .i64 l1, .int .i64 l2], .agg #[.int .i64 ex, .int .i64 et, .int .i64 ec, .int .i64 es, .int .i64 3, .int .i64 ea, .int .i64 eb, .int .i64 eg, .int .i64 eh]] w (RetStateV w ex et l0 l1 l2 pl.length (PR pl) ql.length (JB ql) (.int .i64 0)) := by
  have HP := Lib.hid hP
  have HQ := Lib.hid hQ
  have HA := Lib.hid hA
  have HB := Lib.hid hB
  have hL := Lib.hid hl
  have hR := Lib.hid hr
  clear hP hQ hA hB hl hr
  go_enter Tryz.func43, Tryz.ntmps43
  go_upto_region 1 with fail
  obtain ⟨v0, hv0⟩ : ∃ x : World, x = (((w.alloc (.cells #[.int .i64 i0, .int .i64 t0, .slice A n c, .slice B m d, .int .i64 l0, .int .i64 l1, .int .i64 l2] 37)).alloc (.cells #[.int .i64 ex, .int .i64 et, .int .i64 ec, .int .i64 es, .int .i64 3, .int .i64 ea, .int .i64 eb, .int .i64 eg, .int .i64 eh] 43)).alloc (.cells #[.int .i64 0, .int .i64 0, .slice none 0 0, .slice none 0 0, .int .i64 0, .int .i64 0, .int .i64 0] 37)) := ⟨_, rfl⟩
  rw [← hv0]
  have f0 : Below w.heap.size w v0 := by rw [hv0]; (repeat' (first | (with_reducible exact Below.refl _ _) | (with_reducible assumption) | (with_reducible refine Below.alloc ?_ ?_ _) | (with_reducible refine Below.drew ?_) | (with_reducible refine Below.setCell ?_ ?_ _) | (with_reducible refine bstep (by assumption) ?_ ?_) | (with_reducible exact Nat.le_refl _) | omega | (simp [*]; done) | (simp [*]; omega)))
  have z0 : w.heap.size + 3 ≤ v0.heap.size := by rw [hv0]; simp [size_set]
  have HP_0 := Lib.hid (HP.out.below f0)
  have HP_lt := Lib.hid (fun hn => HP.out.lt hn)
  have HQ_0 := Lib.hid (HQ.out.below f0)
  have HQ_lt := Lib.hid (fun hn => HQ.out.lt hn)
  have Ha_0 : Hid (Blk v0 w.heap.size 37 #[.int .i64 i0, .int .i64 t0, .slice A n c, .slice B m d, .int .i64 l0, .int .i64 l1, .int .i64 l2]) := by rw [hv0]; exact ((Blk.new_at _ _ _ _ (by simp)).alloc _).alloc _
  have Hb_0 : Hid (Blk v0 (w.heap.size + 1) 43 #[.int .i64 ex, .int .i64 et, .int .i64 ec, .int .i64 es, .int .i64 3, .int .i64 ea, .int .i64 eb, .int .i64 eg, .int .i64 eh]) := by rw [hv0]; exact (Blk.new_at _ _ _ _ (by simp)).alloc _
  have Hr_0 : Hid (Blk v0 (w.heap.size + 1 + 1) 37 #[.int .i64 0, .int .i64 0, .slice none 0 0, .slice none 0 0, .int .i64 0, .int .i64 0, .int .i64 0]) := by rw [hv0]; exact Blk.new_at _ _ _ _ (by simp)
  clear hv0
  generalize hg2 : w.heap.size + 1 + 1 = g2 at *
  generalize hg1 : w.heap.size + 1 = g1 at *
  have lg1 : w.heap.size < g1 := by omega
  have lg2 : g1 < g2 := by omega
  have lgz : g2 < v0.heap.size := by omega
  have nq1x0 : ¬ g1 = w.heap.size := by omega
  have nq0x1 : ¬ w.heap.size = g1 := by omega
  have nq2x0 : ¬ g2 = w.heap.size := by omega
  have nq0x2 : ¬ w.heap.size = g2 := by omega
  have nq2x1 : ¬ g2 = g1 := by omega
  have nq1x2 : ¬ g1 = g2 := by omega
  clear hg1 hg2
  have lt_a := Ha_0.out.lt
  obtain ⟨r_a0, r_a1, r_a2, r_a3, r_a4, r_a5, r_a6⟩ := bc7 Ha_0.out
  have lt_b := Hb_0.out.lt
  obtain ⟨r_b0, r_b1, r_b2, r_b3, r_b4, r_b5, r_b6, r_b7, r_b8⟩ := bc9 Hb_0.out
  go_cut [6, 7] (fun pv ov wx => ∃ (g : Nat) (A1 : Option Addr) (n1 c1 : Nat) (B1 : Option Addr) (m1 d1 : Nat) (x0 x1 x2 : Int), pv = .pointer (some ⟨g, 0, none⟩) ∧ ov = .bool false ∧ g2 < g ∧ v0.heap.size ≤ g ∧ Hid (Blk wx g 37 #[.int .i64 i0, .int .i64 t0, .slice A1 n1 c1, .slice B1 m1 d1, .int .i64 x0, .int .i64 x1, .int .i64 x2]) ∧ Hid (Below v0.heap.size v0 wx))
  case first =>
    have hnm : n ≤ maxLen := by unfold maxLen; omega
    have hmm : m ≤ maxLen := by unfold maxLen; omega
    have hS0 : ∀ b o, b < v0.heap.size → v0.cell? ⟨b, o, none⟩ = v0.cell? ⟨b, o, none⟩ := fun b o hb => rfl
    have ix : ∀ wz : World, (Instr.index 116 (.agg #[.nilFunc, .func (.func 97) #[] #[], .func (.func 99) #[] #[], .func (.func 101) #[] #[], .func (.func 103) #[] #[], .func (.func 107) #[] #[]]) (.int .i64 3)).run Tryz.prog wz = .ok (.func (.func 101) #[] #[]) wz := fun _ => by kernel_rfl
    go_region_held_law (fun w' => ∀ b o, b < v0.heap.size → w'.cell? ⟨b, o, none⟩ = v0.cell? ⟨b, o, none⟩) (repeat' (first | with_reducible assumption | with_reducible exact Nat.le_refl _ | with_reducible exact hS0 | with_reducible refine hl_drew ?_ | with_reducible refine hl_alloc ?_ ?_ _ | with_reducible refine hl_set7 ?_ ?_ _ _ _ _ _ _ _)) (first | (go_at_call 82; refine (effects_any _).mono ?_; rintro e u1 ⟨rfl, b1⟩; (first | (have KB : Blk u1 v0.heap.size 37 #[.int .i64 0, .int .i64 0, .slice none 0 0, .slice none 0 0, .int .i64 0, .int .i64 0, .int .i64 0] := by with_reducible exact t_below2 b1 (Blk.new_at _ _ _ _ rfl)) | (have KB : Blk u1 v0.heap.size 37 #[.int .i64 0, .int .i64 0, .slice none 0 0, .slice none 0 0, .int .i64 0, .int .i64 0, .int .i64 0] := by with_reducible exact t_below2 b1 (Blk.drew (Blk.new_at _ _ _ _ rfl))) | (have KB : Blk u1 v0.heap.size 37 #[.int .i64 0, .int .i64 0, .slice none 0 0, .slice none 0 0, .int .i64 0, .int .i64 0, .int .i64 0] := by with_reducible exact t_below2 b1 (Blk.new_at _ _ _ _ (t_drew_size _))) | (replace KB := t_below2 b1 KB) | (replace KB := t_below2 b1 (Blk.drew KB)) | skip); have E1 : Below v0.heap.size v0 u1 := (by first | with_reducible exact b1 | with_reducible exact tb_dr b1 | with_reducible exact tb_al b1 | with_reducible exact tb_da b1 | with_reducible exact tb_ad b1); have H1 := E1; have y1 := H1.size; have hS1 : ∀ b o, b < v0.heap.size → u1.cell? ⟨b, o, none⟩ = v0.cell? ⟨b, o, none⟩ := fun b o hb => H1.cell (p := ⟨b, o, none⟩) hb; have HPu := Lib.hid (HP_0.out.below E1); have HQu := Lib.hid (HQ_0.out.below E1)) | (go_at_call 101; refine (eff3_R A n c B m d i0 t0 l0 l1 l2 pl ql ex et ec es ea eb eg eh _ (by first | with_reducible exact HPu.out | with_reducible exact Sl.alloc HPu.out _) (by first | with_reducible exact HQu.out | with_reducible exact Sl.alloc HQu.out _) hL.out hR.out hnm hmm HA.out HB.out w.heap.size HP_lt.out HQ_lt.out p2 q2 h2 e2 u2 false hE).mono ?_; rintro e u2_ ⟨A1, n1, c1, B1, m1, d1, x0, x1, x2, rfl, b2, hx⟩; (first | (have KB : Blk u2_ u1.heap.size 37 #[.int .i64 0, .int .i64 0, .slice none 0 0, .slice none 0 0, .int .i64 0, .int .i64 0, .int .i64 0] := by with_reducible exact t_below2 b2 (Blk.new_at _ _ _ _ rfl)) | (have KB : Blk u2_ u1.heap.size 37 #[.int .i64 0, .int .i64 0, .slice none 0 0, .slice none 0 0, .int .i64 0, .int .i64 0, .int .i64 0] := by with_reducible exact t_below2 b2 (Blk.drew (Blk.new_at _ _ _ _ rfl))) | (have KB : Blk u2_ u1.heap.size 37 #[.int .i64 0, .int .i64 0, .slice none 0 0, .slice none 0 0, .int .i64 0, .int .i64 0, .int .i64 0] := by with_reducible exact t_below2 b2 (Blk.new_at _ _ _ _ (t_drew_size _))) | (replace KB := t_below2 b2 KB) | (replace KB := t_below2 b2 (Blk.drew KB)) | skip); have E2 : Below u1.heap.size u1 u2_ := (by first | with_reducible exact b2 | with_reducible exact tb_dr b2 | with_reducible exact tb_al b2 | with_reducible exact tb_da b2 | with_reducible exact tb_ad b2); have H2 := bthen H1 E2; have y2 := H2.size; have hS2 : ∀ b o, b < v0.heap.size → u2_.cell? ⟨b, o, none⟩ = v0.cell? ⟨b, o, none⟩ := fun b o hb => H2.cell (p := ⟨b, o, none⟩) hb; (try (have kb0 := KB.cell 0)); (try (have kf0 := KB.frozen 0)); (try (have kb1 := KB.cell 1)); (try (have kf1 := KB.frozen 1)); (try (have kb2 := KB.cell 2)); (try (have kf2 := KB.frozen 2)); (try (have kb3 := KB.cell 3)); (try (have kf3 := KB.frozen 3)); (try (have kb4 := KB.cell 4)); (try (have kf4 := KB.frozen 4)); (try (have kb5 := KB.cell 5)); (try (have kf5 := KB.frozen 5)); (try (have kb6 := KB.cell 6)); (try (have kf6 := KB.frozen 6)); (try (have kbl := KB.lt))))
    all_goals
      have s1 := b1.size
      have s2 := b2.size
      (try simp only [t_size_alloc, ← t_drew_size] at s1)
      (try simp only [t_size_alloc, ← t_drew_size] at s2)
      go_wp2_with fail
      go_meet
      first
        | (with_reducible refine ⟨u2_.heap.size, A1, n1, c1, B1, m1, d1, x0, x1, x2, rfl, rfl, ?_, ?_, ?_, ?_⟩
           · omega
           · omega
           · exact Lib.hid (Blk.new_at _ _ _ _ rfl)
           · exact Lib.hid (H2.alloc y2 _))
        | (with_reducible refine ⟨u1.heap.size, A1, n1, c1, B1, m1, d1, x0, x1, x2, rfl, rfl, ?_, ?_, ?_, ?_⟩
           · omega
           · omega
           · exact Lib.hid (((((((KB.set_ 0 _).set_ 1 _).set_ 2 _).set_ 3 _).set_ 4 _).set_ 5 _).set_ 6 _)
           · exact Lib.hid (below_far7 H2 (by omega) _ _ _ _ _ _ _))
        | (with_reducible refine ⟨v0.heap.size, A1, n1, c1, B1, m1, d1, x0, x1, x2, rfl, rfl, ?_, ?_, ?_, ?_⟩
           · omega
           · omega
           · exact Lib.hid (((((((KB.set_ 0 _).set_ 1 _).set_ 2 _).set_ 3 _).set_ 4 _).set_ 5 _).set_ 6 _)
           · exact Lib.hid (below_far7 H2 (by omega) _ _ _ _ _ _ _))
  case rest =>
    obtain ⟨g, A1, n1, c1, B1, m1, d1, x0, x1, x2, rfl, rfl, hg2, hgz, KX, E1⟩ := hcut
    rename World => v1
    clear lt_a r_a0 r_a1 r_a2 r_a3 r_a4 r_a5 r_a6 lt_b r_b0 r_b1 r_b2 r_b3 r_b4 r_b5 r_b6 r_b7 r_b8
    have F1 := Lib.hid (bthen f0 E1.out)
    have y1 := E1.out.size
    have Ka := Lib.hid (Ha_0.out.below E1.out)
    have Kb := Lib.hid (Hb_0.out.below E1.out)
    have Kr := Lib.hid (Hr_0.out.below E1.out)
    have HP1 := Lib.hid (HP_0.out.below E1.out)
    have HQ1 := Lib.hid (HQ_0.out.below E1.out)
    clear Ha_0 Hb_0 Hr_0 HP_0 HQ_0 HP_lt HQ_lt HP HQ
    have lt_a := Ka.out.lt
    obtain ⟨r_a0, r_a1, r_a2, r_a3, r_a4, r_a5, r_a6⟩ := bc7 Ka.out
    have lt_x := KX.out.lt
    have r_x0 : v1.cell? ⟨g, 0, none⟩ = some (.int .i64 i0) := KX.out.cell 0
    have z_x0 := KX.out.frozen 0
    have r_x1 : v1.cell? ⟨g, 1, none⟩ = some (.int .i64 t0) := KX.out.cell 1
    have z_x1 := KX.out.frozen 1
    have r_x2 : v1.cell? ⟨g, 2, none⟩ = some (.slice A1 n1 c1) := KX.out.cell 2
    have z_x2 := KX.out.frozen 2
    have r_x3 : v1.cell? ⟨g, 3, none⟩ = some (.slice B1 m1 d1) := KX.out.cell 3
    have z_x3 := KX.out.frozen 3
    have r_x4 : v1.cell? ⟨g, 4, none⟩ = some (.int .i64 x0) := KX.out.cell 4
    have z_x4 := KX.out.frozen 4
    have r_x5 : v1.cell? ⟨g, 5, none⟩ = some (.int .i64 x1) := KX.out.cell 5
    have z_x5 := KX.out.frozen 5
    have r_x6 : v1.cell? ⟨g, 6, none⟩ = some (.int .i64 x2) := KX.out.cell 6
    have z_x6 := KX.out.frozen 6
    go_wp2_with fail
    refine (copyState_any A n c B m d i0 t0 l0 l1 l2 pl ql _ HP1.out HQ1.out hL.out hR.out hn hm HA.out HB.out).mono ?_
    rintro e v2 ⟨A5, c5, B5, d5, rfl, R5, R6, hap, b2⟩
    clear lt_a r_a0 r_a1 r_a2 r_a3 r_a4 r_a5 r_a6
    clear lt_x r_x0 z_x0 r_x1 z_x1 r_x2 z_x2 r_x3 z_x3 r_x4 z_x4 r_x5 z_x5 r_x6 z_x6
    have Kb2 := Kb.out.below b2
    have Kr2 := Kr.out.below b2
    have KX2 := KX.out.below b2
    have F2 := bthen F1.out b2
    have y2 := b2.size
    have lx := KX.out.lt
    have n5 : ∀ a, A5 = some a → a.block ≠ g := fun a ha => by have := R5.ge a ha; omega
    have n6 : ∀ a, B5 = some a → a.block ≠ g := fun a ha => by have := R6.ge a ha; omega
    have m5 : ∀ a, A5 = some a → a.block ≠ g2 := fun a ha => by have := R5.ge a ha; omega
    have m6 : ∀ a, B5 = some a → a.block ≠ g2 := fun a ha => by have := R6.ge a ha; omega
    have HM := Lib.hid (And.intro n5 (And.intro n6 (And.intro m5 m6)))
    have HAP := Lib.hid hap
    clear n5 n6 m5 m6 hap Ka Kb Kr KX F1 HP1 HQ1
    have lt_x := KX2.lt
    have r_x0 : v2.cell? ⟨g, 0, none⟩ = some (.int .i64 i0) := KX2.cell 0
    have z_x0 := KX2.frozen 0
    have r_x1 : v2.cell? ⟨g, 1, none⟩ = some (.int .i64 t0) := KX2.cell 1
    have z_x1 := KX2.frozen 1
    have r_x2 : v2.cell? ⟨g, 2, none⟩ = some (.slice A1 n1 c1) := KX2.cell 2
    have z_x2 := KX2.frozen 2
    have r_x3 : v2.cell? ⟨g, 3, none⟩ = some (.slice B1 m1 d1) := KX2.cell 3
    have z_x3 := KX2.frozen 3
    have r_x4 : v2.cell? ⟨g, 4, none⟩ = some (.int .i64 x0) := KX2.cell 4
    have z_x4 := KX2.frozen 4
    have r_x5 : v2.cell? ⟨g, 5, none⟩ = some (.int .i64 x1) := KX2.cell 5
    have z_x5 := KX2.frozen 5
    have r_x6 : v2.cell? ⟨g, 6, none⟩ = some (.int .i64 x2) := KX2.cell 6
    have z_x6 := KX2.frozen 6
    go_upto_region 4 with fail
    obtain ⟨v3, hv3⟩ : ∃ x : World, x = (((((((v2.setCell ⟨g, 0, none⟩ (.int .i64 i0)).setCell ⟨g, 1, none⟩ (.int .i64 t0)).setCell ⟨g, 2, none⟩ (.slice A5 n c5)).setCell ⟨g, 3, none⟩ (.slice B5 m d5)).setCell ⟨g, 4, none⟩ (.int .i64 l0)).setCell ⟨g, 5, none⟩ (.int .i64 l1)).setCell ⟨g, 6, none⟩ (.int .i64 l2)) := ⟨_, rfl⟩
    rw [← hv3]
    have KX : Hid (Blk v3 g 37 #[.int .i64 i0, .int .i64 t0, .slice A5 n c5, .slice B5 m d5, .int .i64 l0, .int .i64 l1, .int .i64 l2]) := by rw [hv3]; exact ((((((KX2.set_ 0 _).set_ 1 _).set_ 2 _).set_ 3 _).set_ 4 _).set_ 5 _).set_ 6 _
    have Kb : Hid (Blk v3 g1 43 #[.int .i64 ex, .int .i64 et, .int .i64 ec, .int .i64 es, .int .i64 3, .int .i64 ea, .int .i64 eb, .int .i64 eg, .int .i64 eh]) := by rw [hv3]; exact (((((((Kb2).far (p := ⟨g, 0, none⟩) (show g1 ≠ g by omega) _).far (p := ⟨g, 1, none⟩) (show g1 ≠ g by omega) _).far (p := ⟨g, 2, none⟩) (show g1 ≠ g by omega) _).far (p := ⟨g, 3, none⟩) (show g1 ≠ g by omega) _).far (p := ⟨g, 4, none⟩) (show g1 ≠ g by omega) _).far (p := ⟨g, 5, none⟩) (show g1 ≠ g by omega) _).far (p := ⟨g, 6, none⟩) (show g1 ≠ g by omega) _
    have Kr : Hid (Blk v3 g2 37 #[.int .i64 0, .int .i64 0, .slice none 0 0, .slice none 0 0, .int .i64 0, .int .i64 0, .int .i64 0]) := by rw [hv3]; exact (((((((Kr2).far (p := ⟨g, 0, none⟩) (show g2 ≠ g by omega) _).far (p := ⟨g, 1, none⟩) (show g2 ≠ g by omega) _).far (p := ⟨g, 2, none⟩) (show g2 ≠ g by omega) _).far (p := ⟨g, 3, none⟩) (show g2 ≠ g by omega) _).far (p := ⟨g, 4, none⟩) (show g2 ≠ g by omega) _).far (p := ⟨g, 5, none⟩) (show g2 ≠ g by omega) _).far (p := ⟨g, 6, none⟩) (show g2 ≠ g by omega) _
    have F1 : Hid (Below w.heap.size w v3) := by rw [hv3]; exact below_far7 F2 (by omega) _ _ _ _ _ _ _
    have RP : Hid (Row v3 w.heap.size 106 2 A5 n c5 (PR pl)) := by rw [hv3]; exact row_far7 (R5.mono (by omega)) HM.out.1 _ _ _ _ _ _ _
    have RQ : Hid (Row v3 w.heap.size 71 5 B5 m d5 (JB ql)) := by rw [hv3]; exact row_far7 (R6.mono (by omega)) HM.out.2.1 _ _ _ _ _ _ _
    clear hv3 Kb2 Kr2 KX2 F2 R5 R6 b2
    clear lt_x r_x0 z_x0 r_x1 z_x1 r_x2 z_x2 r_x3 z_x3 r_x4 z_x4 r_x5 z_x5 r_x6 z_x6
    have lt_b := Kb.out.lt
    obtain ⟨r_b0, r_b1, r_b2, r_b3, r_b4, r_b5, r_b6, r_b7, r_b8⟩ := bc9 Kb.out
    have lt_x := KX.out.lt
    have r_x0 : v3.cell? ⟨g, 0, none⟩ = some (.int .i64 i0) := KX.out.cell 0
    have z_x0 := KX.out.frozen 0
    have r_x1 : v3.cell? ⟨g, 1, none⟩ = some (.int .i64 t0) := KX.out.cell 1
    have z_x1 := KX.out.frozen 1
    have r_x2 : v3.cell? ⟨g, 2, none⟩ = some (.slice A5 n c5) := KX.out.cell 2
    have z_x2 := KX.out.frozen 2
    have r_x3 : v3.cell? ⟨g, 3, none⟩ = some (.slice B5 m d5) := KX.out.cell 3
    have z_x3 := KX.out.frozen 3
    have r_x4 : v3.cell? ⟨g, 4, none⟩ = some (.int .i64 l0) := KX.out.cell 4
    have z_x4 := KX.out.frozen 4
    have r_x5 : v3.cell? ⟨g, 5, none⟩ = some (.int .i64 l1) := KX.out.cell 5
    have z_x5 := KX.out.frozen 5
    have r_x6 : v3.cell? ⟨g, 6, none⟩ = some (.int .i64 l2) := KX.out.cell 6
    have z_x6 := KX.out.frozen 6
    have ngb : ¬ g = g1 := by omega
    have nbg : ¬ g1 = g := by omega
    go_cut [] (fun wx => Hid (Blk wx g 37 #[.int .i64 ex, .int .i64 et, .slice A5 n c5, .slice B5 m d5, .int .i64 l0, .int .i64 l1, .int .i64 l2]) ∧ Hid (Below w.heap.size w wx) ∧ Hid (Blk wx g2 37 #[.int .i64 0, .int .i64 0, .slice none 0 0, .slice none 0 0, .int .i64 0, .int .i64 0, .int .i64 0]) ∧ Hid (Row wx w.heap.size 106 2 A5 n c5 (PR pl)) ∧ Hid (Row wx w.heap.size 71 5 B5 m d5 (JB ql)))
    case first =>
      have hS0 : ∀ b o, b < g → v3.cell? ⟨b, o, none⟩ = v3.cell? ⟨b, o, none⟩ := fun b o hb => rfl
      have lbg : g1 < g := by omega
      go_region_held_law (fun w' => ∀ b o, b < g → w'.cell? ⟨b, o, none⟩ = v3.cell? ⟨b, o, none⟩) (repeat' (first | with_reducible assumption | with_reducible exact Nat.le_refl _ | with_reducible exact hS0 | with_reducible refine hl_drew ?_ | with_reducible refine hl_set ?_ ?_ _ _)) (fail)
      all_goals
        go_wp2_with fail
        go_meet
        first
          | exact ⟨Lib.hid (((KX.out.drew).set_ 0 _).set_ 1 _), Lib.hid (((F1.out.drew).setCell (p := ⟨g, 0, none⟩) (by show w.heap.size ≤ g; omega) _).setCell (p := ⟨g, 1, none⟩) (by show w.heap.size ≤ g; omega) _), Lib.hid (((Kr.out.drew).far (p := ⟨g, 0, none⟩) (show g2 ≠ g by omega) _).far (p := ⟨g, 1, none⟩) (show g2 ≠ g by omega) _), Lib.hid (((RP.out.drew).far (p := ⟨g, 0, none⟩) HM.out.1 _).far (p := ⟨g, 1, none⟩) HM.out.1 _), Lib.hid (((RQ.out.drew).far (p := ⟨g, 0, none⟩) HM.out.2.1 _).far (p := ⟨g, 1, none⟩) HM.out.2.1 _)⟩
          | exact ⟨Lib.hid (((KX.out.drew).set_ 1 _).set_ 0 _), Lib.hid (((F1.out.drew).setCell (p := ⟨g, 1, none⟩) (by show w.heap.size ≤ g; omega) _).setCell (p := ⟨g, 0, none⟩) (by show w.heap.size ≤ g; omega) _), Lib.hid (((Kr.out.drew).far (p := ⟨g, 1, none⟩) (show g2 ≠ g by omega) _).far (p := ⟨g, 0, none⟩) (show g2 ≠ g by omega) _), Lib.hid (((RP.out.drew).far (p := ⟨g, 1, none⟩) HM.out.1 _).far (p := ⟨g, 0, none⟩) HM.out.1 _), Lib.hid (((RQ.out.drew).far (p := ⟨g, 1, none⟩) HM.out.2.1 _).far (p := ⟨g, 0, none⟩) HM.out.2.1 _)⟩
    case rest =>
      clear lt_b r_b0 r_b1 r_b2 r_b3 r_b4 r_b5 r_b6 r_b7 r_b8
      clear lt_x r_x0 z_x0 r_x1 z_x1 r_x2 z_x2 r_x3 z_x3 r_x4 z_x4 r_x5 z_x5 r_x6 z_x6
      obtain ⟨KX2, F2, Kr2, RP2, RQ2⟩ := hcut
      rename World => v4
      clear KX
      clear Kb Kr RP RQ F1
      have ngr : ¬ g = g2 := by omega
      have nrg : ¬ g2 = g := by omega
      have lt_x := KX2.out.lt
      have r_x0 : v4.cell? ⟨g, 0, none⟩ = some (.int .i64 ex) := KX2.out.cell 0
      have z_x0 := KX2.out.frozen 0
      have r_x1 : v4.cell? ⟨g, 1, none⟩ = some (.int .i64 et) := KX2.out.cell 1
      have z_x1 := KX2.out.frozen 1
      have r_x2 : v4.cell? ⟨g, 2, none⟩ = some (.slice A5 n c5) := KX2.out.cell 2
      have z_x2 := KX2.out.frozen 2
      have r_x3 : v4.cell? ⟨g, 3, none⟩ = some (.slice B5 m d5) := KX2.out.cell 3
      have z_x3 := KX2.out.frozen 3
      have r_x4 : v4.cell? ⟨g, 4, none⟩ = some (.int .i64 l0) := KX2.out.cell 4
      have z_x4 := KX2.out.frozen 4
      have r_x5 : v4.cell? ⟨g, 5, none⟩ = some (.int .i64 l1) := KX2.out.cell 5
      have z_x5 := KX2.out.frozen 5
      have r_x6 : v4.cell? ⟨g, 6, none⟩ = some (.int .i64 l2) := KX2.out.cell 6
      have z_x6 := KX2.out.frozen 6
      have lt_r := Kr2.out.lt
      have r_r0 : v4.cell? ⟨g2, 0, none⟩ = some (.int .i64 0) := Kr2.out.cell 0
      have z_r0 := Kr2.out.frozen 0
      have r_r1 : v4.cell? ⟨g2, 1, none⟩ = some (.int .i64 0) := Kr2.out.cell 1
      have z_r1 := Kr2.out.frozen 1
      have r_r2 : v4.cell? ⟨g2, 2, none⟩ = some (.slice none 0 0) := Kr2.out.cell 2
      have z_r2 := Kr2.out.frozen 2
      have r_r3 : v4.cell? ⟨g2, 3, none⟩ = some (.slice none 0 0) := Kr2.out.cell 3
      have z_r3 := Kr2.out.frozen 3
      have r_r4 : v4.cell? ⟨g2, 4, none⟩ = some (.int .i64 0) := Kr2.out.cell 4
      have z_r4 := Kr2.out.frozen 4
      have r_r5 : v4.cell? ⟨g2, 5, none⟩ = some (.int .i64 0) := Kr2.out.cell 5
      have z_r5 := Kr2.out.frozen 5
      have r_r6 : v4.cell? ⟨g2, 6, none⟩ = some (.int .i64 0) := Kr2.out.cell 6
      have z_r6 := Kr2.out.frozen 6
      go_wp21
      refine bodyPost_ret (v := .tuple #[.agg #[.int .i64 ex, .int .i64 et, .slice A5 n c5, .slice B5 m d5, .int .i64 l0, .int .i64 l1, .int .i64 l2], .int .i64 0]) (by simp [results, Tryz.results43, go_sem, *]) rfl ?_
      exact RetStateV.mk hL.out hR.out (row_far7 RP2.out HM.out.2.2.1 _ _ _ _ _ _ _) (row_far7 RQ2.out HM.out.2.2.2 _ _ _ _ _ _ _) HAP.out (below_far7 F2.out (show w.heap.size ≤ g2 by omega) _ _ _ _ _ _ _)
end Go.Proofs.YtokklkmibjpjnaaGreat
namespace Go.Proofs.YtokklkmibjpjnaaGreat
set_option linter.unusedSimpArgs false
set_option linter.unusedVariables false
attribute [local go_sem] n_lt2 n_lt3 n_lt4 n_le2 n_le3
open Go.RowKit
attribute [local go_sem] Ext.cell Ext.frozen
set_option maxRecDepth 100000 in
set_option maxHeartbeats 8000000 in
theorem applied_no4 (A : Option Addr) (n c : Nat) (B : Option Addr) (m d : Nat) (i0 t0 l0 l1 l2 : Int) (pl : List Pr) (ql : List Jb) (ex et ec es ea eb eg eh : Int) (w : World) (hP : Sl w 2 A n (PR pl)) (hQ : Sl w 5 B m (JB ql)) (hl : pl.length = n) (hr : ql.length = m) (hn : n ≤ 1000) (hm : m ≤ 1000) (hA : A = none → n = 0 ∧ c = 0) (hB : B = none → m = 0 ∧ d = 0) (p2 : List Pr) (q2 : List Jb) (h2 e2 u2 : Int) (hE : Hid (effE l0 l1 l2 pl ql ex et ec es 4 ea eb eg eh = (⟨p2, q2, h2, e2, u2⟩, false))) :
    Calls Tryz.prog 43 #[.agg #[.int .i64 i0, .int .i64 t0, .slice A n c, .slice B m d, .int .i64 l0, .int .i64 l1, .int .i64 l2], .agg #[.int .i64 ex, .int .i64 et, .int .i64 ec, .int .i64 es, .int .i64 4, .int .i64 ea, .int .i64 eb, .int .i64 eg, .int .i64 eh]] w (RetStateV w ex et l0 l1 l2 pl.length (PR pl) ql.length (JB ql) (.int .i64 0)) := by
  have HP := Lib.hid hP
  have HQ := Lib.hid hQ
  have HA := Lib.hid hA
  have HB := Lib.hid hB
  have hL := Lib.hid hl
  have hR := Lib.hid hr
  clear hP hQ hA hB hl hr
  go_enter Tryz.func43, Tryz.ntmps43
  go_upto_region 1 with fail
  obtain ⟨v0, hv0⟩ : ∃ x : World, x = (((w.alloc (.cells #[.int .i64 i0, .int .i64 t0, .slice A n c, .slice B m d, .int .i64 l0, .int .i64 l1, .int .i64 l2] 37)).alloc (.cells #[.int .i64 ex, .int .i64 et, .int .i64 ec, .int .i64 es, .int .i64 4, .int .i64 ea, .int .i64 eb, .int .i64 eg, .int .i64 eh] 43)).alloc (.cells #[.int .i64 0, .int .i64 0, .slice none 0 0, .slice none 0 0, .int .i64 0, .int .i64 0, .int .i64 0] 37)) := ⟨_, rfl⟩
  rw [← hv0]
  have f0 : Below w.heap.size w v0 := by rw [hv0]; (repeat' (first | (with_reducible exact Below.refl _ _) | (with_reducible assumption) | (with_reducible refine Below.alloc ?_ ?_ _) | (with_reducible refine Below.drew ?_) | (with_reducible refine Below.setCell ?_ ?_ _) | (with_reducible refine bstep (by assumption) ?_ ?_) | (with_reducible exact Nat.le_refl _) | omega | (simp [*]; done) | (simp [*]; omega)))
  have z0 : w.heap.size + 3 ≤ v0.heap.size := by rw [hv0]; simp [size_set]
  have HP_0 := Lib.hid (HP.out.below f0)
  have HP_lt := Lib.hid (fun hn => HP.out.lt hn)
  have HQ_0 := Lib.hid (HQ.out.below f0)
  have HQ_lt := Lib.hid (fun hn => HQ.out.lt hn)
  have Ha_0 : Hid (Blk v0 w.heap.size 37 #[.int .i64 i0, .int .i64 t0, .slice A n c, .slice B m d, .int .i64 l0, .int .i64 l1, .int .i64 l2]) := by rw [hv0]; exact ((Blk.new_at _ _ _ _ (by simp)).alloc _).alloc _
  have Hb_0 : Hid (Blk v0 (w.heap.size + 1) 43 #[.int .i64 ex, .int .i64 et, .int .i64 ec, .int .i64 es, .int .i64 4, .int .i64 ea, .int .i64 eb, .int .i64 eg, .int .i64 eh]) := by rw [hv0]; exact (Blk.new_at _ _ _ _ (by simp)).alloc _
  have Hr_0 : Hid (Blk v0 (w.heap.size + 1 + 1) 37 #[.int .i64 0, .int .i64 0, .slice none 0 0, .slice none 0 0, .int .i64 0, .int .i64 0, .int .i64 0]) := by rw [hv0]; exact Blk.new_at _ _ _ _ (by simp)
  clear hv0
  generalize hg2 : w.heap.size + 1 + 1 = g2 at *
  generalize hg1 : w.heap.size + 1 = g1 at *
  have lg1 : w.heap.size < g1 := by omega
  have lg2 : g1 < g2 := by omega
  have lgz : g2 < v0.heap.size := by omega
  have nq1x0 : ¬ g1 = w.heap.size := by omega
  have nq0x1 : ¬ w.heap.size = g1 := by omega
  have nq2x0 : ¬ g2 = w.heap.size := by omega
  have nq0x2 : ¬ w.heap.size = g2 := by omega
  have nq2x1 : ¬ g2 = g1 := by omega
  have nq1x2 : ¬ g1 = g2 := by omega
  clear hg1 hg2
  have lt_a := Ha_0.out.lt
  obtain ⟨r_a0, r_a1, r_a2, r_a3, r_a4, r_a5, r_a6⟩ := bc7 Ha_0.out
  have lt_b := Hb_0.out.lt
  obtain ⟨r_b0, r_b1, r_b2, r_b3, r_b4, r_b5, r_b6, r_b7, r_b8⟩ := bc9 Hb_0.out
  go_cut [6, 7] (fun pv ov wx => ∃ (g : Nat) (A1 : Option Addr) (n1 c1 : Nat) (B1 : Option Addr) (m1 d1 : Nat) (x0 x1 x2 : Int), pv = .pointer (some ⟨g, 0, none⟩) ∧ ov = .bool false ∧ g2 < g ∧ v0.heap.size ≤ g ∧ Hid (Blk wx g 37 #[.int .i64 i0, .int .i64 t0, .slice A1 n1 c1, .slice B1 m1 d1, .int .i64 x0, .int .i64 x1, .int .i64 x2]) ∧ Hid (Below v0.heap.size v0 wx))
  case first =>
    have hnm : n ≤ maxLen := by unfold maxLen; omega
    have hmm : m ≤ maxLen := by unfold maxLen; omega
    have hS0 : ∀ b o, b < v0.heap.size → v0.cell? ⟨b, o, none⟩ = v0.cell? ⟨b, o, none⟩ := fun b o hb => rfl
    have ix : ∀ wz : World, (Instr.index 116 (.agg #[.nilFunc, .func (.func 97) #[] #[], .func (.func 99) #[] #[], .func (.func 101) #[] #[], .func (.func 103) #[] #[], .func (.func 107) #[] #[]]) (.int .i64 4)).run Tryz.prog wz = .ok (.func (.func 103) #[] #[]) wz := fun _ => by kernel_rfl
    go_region_held_law (fun w' => ∀ b o, b < v0.heap.size → w'.cell? ⟨b, o, none⟩ = v0.cell? ⟨b, o, none⟩) (repeat' (first | with_reducible assumption | with_reducible exact Nat.le_refl _ | with_reducible exact hS0 | with_reducible refine hl_drew ?_ | with_reducible refine hl_alloc ?_ ?_ _ | with_reducible refine hl_set7 ?_ ?_ _ _ _ _ _ _ _)) (first | (go_at_call 82; refine (effects_any _).mono ?_; rintro e u1 ⟨rfl, b1⟩; (first | (have KB : Blk u1 v0.heap.size 37 #[.int .i64 0, .int .i64 0, .slice none 0 0, .slice none 0 0, .int .i64 0, .int .i64 0, .int .i64 0] := by with_reducible exact t_below2 b1 (Blk.new_at _ _ _ _ rfl)) | (have KB : Blk u1 v0.heap.size 37 #[.int .i64 0, .int .i64 0, .slice none 0 0, .slice none 0 0, .int .i64 0, .int .i64 0, .int .i64 0] := by with_reducible exact t_below2 b1 (Blk.drew (Blk.new_at _ _ _ _ rfl))) | (have KB : Blk u1 v0.heap.size 37 #[.int .i64 0, .int .i64 0, .slice none 0 0, .slice none 0 0, .int .i64 0, .int .i64 0, .int .i64 0] := by with_reducible exact t_below2 b1 (Blk.new_at _ _ _ _ (t_drew_size _))) | (replace KB := t_below2 b1 KB) | (replace KB := t_below2 b1 (Blk.drew KB)) | skip); have E1 : Below v0.heap.size v0 u1 := (by first | with_reducible exact b1 | with_reducible exact tb_dr b1 | with_reducible exact tb_al b1 | with_reducible exact tb_da b1 | with_reducible exact tb_ad b1); have H1 := E1; have y1 := H1.size; have hS1 : ∀ b o, b < v0.heap.size → u1.cell? ⟨b, o, none⟩ = v0.cell? ⟨b, o, none⟩ := fun b o hb => H1.cell (p := ⟨b, o, none⟩) hb; have HPu := Lib.hid (HP_0.out.below E1); have HQu := Lib.hid (HQ_0.out.below E1)) | (go_at_call 103; refine (eff4_R A n c B m d i0 t0 l0 l1 l2 pl ql ex et ec es ea eb eg eh _ (by first | with_reducible exact HPu.out | with_reducible exact Sl.alloc HPu.out _) (by first | with_reducible exact HQu.out | with_reducible exact Sl.alloc HQu.out _) hL.out hR.out hnm hmm HA.out HB.out w.heap.size HP_lt.out HQ_lt.out p2 q2 h2 e2 u2 false hE).mono ?_; rintro e u2_ ⟨A1, n1, c1, B1, m1, d1, x0, x1, x2, rfl, b2, hx⟩; (first | (have KB : Blk u2_ u1.heap.size 37 #[.int .i64 0, .int .i64 0, .slice none 0 0, .slice none 0 0, .int .i64 0, .int .i64 0, .int .i64 0] := by with_reducible exact t_below2 b2 (Blk.new_at _ _ _ _ rfl)) | (have KB : Blk u2_ u1.heap.size 37 #[.int .i64 0, .int .i64 0, .slice none 0 0, .slice none 0 0, .int .i64 0, .int .i64 0, .int .i64 0] := by with_reducible exact t_below2 b2 (Blk.drew (Blk.new_at _ _ _ _ rfl))) | (have KB : Blk u2_ u1.heap.size 37 #[.int .i64 0, .int .i64 0, .slice none 0 0, .slice none 0 0, .int .i64 0, .int .i64 0, .int .i64 0] := by with_reducible exact t_below2 b2 (Blk.new_at _ _ _ _ (t_drew_size _))) | (replace KB := t_below2 b2 KB) | (replace KB := t_below2 b2 (Blk.drew KB)) | skip); have E2 : Below u1.heap.size u1 u2_ := (by first | with_reducible exact b2 | with_reducible exact tb_dr b2 | with_reducible exact tb_al b2 | with_reducible exact tb_da b2 | with_reducible exact tb_ad b2); have H2 := bthen H1 E2; have y2 := H2.size; have hS2 : ∀ b o, b < v0.heap.size → u2_.cell? ⟨b, o, none⟩ = v0.cell? ⟨b, o, none⟩ := fun b o hb => H2.cell (p := ⟨b, o, none⟩) hb; (try (have kb0 := KB.cell 0)); (try (have kf0 := KB.frozen 0)); (try (have kb1 := KB.cell 1)); (try (have kf1 := KB.frozen 1)); (try (have kb2 := KB.cell 2)); (try (have kf2 := KB.frozen 2)); (try (have kb3 := KB.cell 3)); (try (have kf3 := KB.frozen 3)); (try (have kb4 := KB.cell 4)); (try (have kf4 := KB.frozen 4)); (try (have kb5 := KB.cell 5)); (try (have kf5 := KB.frozen 5)); (try (have kb6 := KB.cell 6)); (try (have kf6 := KB.frozen 6)); (try (have kbl := KB.lt))))
    all_goals
      have s1 := b1.size
      have s2 := b2.size
      (try simp only [t_size_alloc, ← t_drew_size] at s1)
      (try simp only [t_size_alloc, ← t_drew_size] at s2)
      go_wp2_with fail
      go_meet
      first
        | (with_reducible refine ⟨u2_.heap.size, A1, n1, c1, B1, m1, d1, x0, x1, x2, rfl, rfl, ?_, ?_, ?_, ?_⟩
           · omega
           · omega
           · exact Lib.hid (Blk.new_at _ _ _ _ rfl)
           · exact Lib.hid (H2.alloc y2 _))
        | (with_reducible refine ⟨u1.heap.size, A1, n1, c1, B1, m1, d1, x0, x1, x2, rfl, rfl, ?_, ?_, ?_, ?_⟩
           · omega
           · omega
           · exact Lib.hid (((((((KB.set_ 0 _).set_ 1 _).set_ 2 _).set_ 3 _).set_ 4 _).set_ 5 _).set_ 6 _)
           · exact Lib.hid (below_far7 H2 (by omega) _ _ _ _ _ _ _))
        | (with_reducible refine ⟨v0.heap.size, A1, n1, c1, B1, m1, d1, x0, x1, x2, rfl, rfl, ?_, ?_, ?_, ?_⟩
           · omega
           · omega
           · exact Lib.hid (((((((KB.set_ 0 _).set_ 1 _).set_ 2 _).set_ 3 _).set_ 4 _).set_ 5 _).set_ 6 _)
           · exact Lib.hid (below_far7 H2 (by omega) _ _ _ _ _ _ _))
  case rest =>
    obtain ⟨g, A1, n1, c1, B1, m1, d1, x0, x1, x2, rfl, rfl, hg2, hgz, KX, E1⟩ := hcut
    rename World => v1
    clear lt_a r_a0 r_a1 r_a2 r_a3 r_a4 r_a5 r_a6 lt_b r_b0 r_b1 r_b2 r_b3 r_b4 r_b5 r_b6 r_b7 r_b8
    have F1 := Lib.hid (bthen f0 E1.out)
    have y1 := E1.out.size
    have Ka := Lib.hid (Ha_0.out.below E1.out)
    have Kb := Lib.hid (Hb_0.out.below E1.out)
    have Kr := Lib.hid (Hr_0.out.below E1.out)
    have HP1 := Lib.hid (HP_0.out.below E1.out)
    have HQ1 := Lib.hid (HQ_0.out.below E1.out)
    clear Ha_0 Hb_0 Hr_0 HP_0 HQ_0 HP_lt HQ_lt HP HQ
    have lt_a := Ka.out.lt
    obtain ⟨r_a0, r_a1, r_a2, r_a3, r_a4, r_a5, r_a6⟩ := bc7 Ka.out
    have lt_x := KX.out.lt
    have r_x0 : v1.cell? ⟨g, 0, none⟩ = some (.int .i64 i0) := KX.out.cell 0
    have z_x0 := KX.out.frozen 0
    have r_x1 : v1.cell? ⟨g, 1, none⟩ = some (.int .i64 t0) := KX.out.cell 1
    have z_x1 := KX.out.frozen 1
    have r_x2 : v1.cell? ⟨g, 2, none⟩ = some (.slice A1 n1 c1) := KX.out.cell 2
    have z_x2 := KX.out.frozen 2
    have r_x3 : v1.cell? ⟨g, 3, none⟩ = some (.slice B1 m1 d1) := KX.out.cell 3
    have z_x3 := KX.out.frozen 3
    have r_x4 : v1.cell? ⟨g, 4, none⟩ = some (.int .i64 x0) := KX.out.cell 4
    have z_x4 := KX.out.frozen 4
    have r_x5 : v1.cell? ⟨g, 5, none⟩ = some (.int .i64 x1) := KX.out.cell 5
    have z_x5 := KX.out.frozen 5
    have r_x6 : v1.cell? ⟨g, 6, none⟩ = some (.int .i64 x2) := KX.out.cell 6
    have z_x6 := KX.out.frozen 6
    go_wp2_with fail
    refine (copyState_any A n c B m d i0 t0 l0 l1 l2 pl ql _ HP1.out HQ1.out hL.out hR.out hn hm HA.out HB.out).mono ?_
    rintro e v2 ⟨A5, c5, B5, d5, rfl, R5, R6, hap, b2⟩
    clear lt_a r_a0 r_a1 r_a2 r_a3 r_a4 r_a5 r_a6
    clear lt_x r_x0 z_x0 r_x1 z_x1 r_x2 z_x2 r_x3 z_x3 r_x4 z_x4 r_x5 z_x5 r_x6 z_x6
    have Kb2 := Kb.out.below b2
    have Kr2 := Kr.out.below b2
    have KX2 := KX.out.below b2
    have F2 := bthen F1.out b2
    have y2 := b2.size
    have lx := KX.out.lt
    have n5 : ∀ a, A5 = some a → a.block ≠ g := fun a ha => by have := R5.ge a ha; omega
    have n6 : ∀ a, B5 = some a → a.block ≠ g := fun a ha => by have := R6.ge a ha; omega
    have m5 : ∀ a, A5 = some a → a.block ≠ g2 := fun a ha => by have := R5.ge a ha; omega
    have m6 : ∀ a, B5 = some a → a.block ≠ g2 := fun a ha => by have := R6.ge a ha; omega
    have HM := Lib.hid (And.intro n5 (And.intro n6 (And.intro m5 m6)))
    have HAP := Lib.hid hap
    clear n5 n6 m5 m6 hap Ka Kb Kr KX F1 HP1 HQ1
    have lt_x := KX2.lt
    have r_x0 : v2.cell? ⟨g, 0, none⟩ = some (.int .i64 i0) := KX2.cell 0
    have z_x0 := KX2.frozen 0
    have r_x1 : v2.cell? ⟨g, 1, none⟩ = some (.int .i64 t0) := KX2.cell 1
    have z_x1 := KX2.frozen 1
    have r_x2 : v2.cell? ⟨g, 2, none⟩ = some (.slice A1 n1 c1) := KX2.cell 2
    have z_x2 := KX2.frozen 2
    have r_x3 : v2.cell? ⟨g, 3, none⟩ = some (.slice B1 m1 d1) := KX2.cell 3
    have z_x3 := KX2.frozen 3
    have r_x4 : v2.cell? ⟨g, 4, none⟩ = some (.int .i64 x0) := KX2.cell 4
    have z_x4 := KX2.frozen 4
    have r_x5 : v2.cell? ⟨g, 5, none⟩ = some (.int .i64 x1) := KX2.cell 5
    have z_x5 := KX2.frozen 5
    have r_x6 : v2.cell? ⟨g, 6, none⟩ = some (.int .i64 x2) := KX2.cell 6
    have z_x6 := KX2.frozen 6
    go_upto_region 4 with fail
    obtain ⟨v3, hv3⟩ : ∃ x : World, x = (((((((v2.setCell ⟨g, 0, none⟩ (.int .i64 i0)).setCell ⟨g, 1, none⟩ (.int .i64 t0)).setCell ⟨g, 2, none⟩ (.slice A5 n c5)).setCell ⟨g, 3, none⟩ (.slice B5 m d5)).setCell ⟨g, 4, none⟩ (.int .i64 l0)).setCell ⟨g, 5, none⟩ (.int .i64 l1)).setCell ⟨g, 6, none⟩ (.int .i64 l2)) := ⟨_, rfl⟩
    rw [← hv3]
    have KX : Hid (Blk v3 g 37 #[.int .i64 i0, .int .i64 t0, .slice A5 n c5, .slice B5 m d5, .int .i64 l0, .int .i64 l1, .int .i64 l2]) := by rw [hv3]; exact ((((((KX2.set_ 0 _).set_ 1 _).set_ 2 _).set_ 3 _).set_ 4 _).set_ 5 _).set_ 6 _
    have Kb : Hid (Blk v3 g1 43 #[.int .i64 ex, .int .i64 et, .int .i64 ec, .int .i64 es, .int .i64 4, .int .i64 ea, .int .i64 eb, .int .i64 eg, .int .i64 eh]) := by rw [hv3]; exact (((((((Kb2).far (p := ⟨g, 0, none⟩) (show g1 ≠ g by omega) _).far (p := ⟨g, 1, none⟩) (show g1 ≠ g by omega) _).far (p := ⟨g, 2, none⟩) (show g1 ≠ g by omega) _).far (p := ⟨g, 3, none⟩) (show g1 ≠ g by omega) _).far (p := ⟨g, 4, none⟩) (show g1 ≠ g by omega) _).far (p := ⟨g, 5, none⟩) (show g1 ≠ g by omega) _).far (p := ⟨g, 6, none⟩) (show g1 ≠ g by omega) _
    have Kr : Hid (Blk v3 g2 37 #[.int .i64 0, .int .i64 0, .slice none 0 0, .slice none 0 0, .int .i64 0, .int .i64 0, .int .i64 0]) := by rw [hv3]; exact (((((((Kr2).far (p := ⟨g, 0, none⟩) (show g2 ≠ g by omega) _).far (p := ⟨g, 1, none⟩) (show g2 ≠ g by omega) _).far (p := ⟨g, 2, none⟩) (show g2 ≠ g by omega) _).far (p := ⟨g, 3, none⟩) (show g2 ≠ g by omega) _).far (p := ⟨g, 4, none⟩) (show g2 ≠ g by omega) _).far (p := ⟨g, 5, none⟩) (show g2 ≠ g by omega) _).far (p := ⟨g, 6, none⟩) (show g2 ≠ g by omega) _
    have F1 : Hid (Below w.heap.size w v3) := by rw [hv3]; exact below_far7 F2 (by omega) _ _ _ _ _ _ _
    have RP : Hid (Row v3 w.heap.size 106 2 A5 n c5 (PR pl)) := by rw [hv3]; exact row_far7 (R5.mono (by omega)) HM.out.1 _ _ _ _ _ _ _
    have RQ : Hid (Row v3 w.heap.size 71 5 B5 m d5 (JB ql)) := by rw [hv3]; exact row_far7 (R6.mono (by omega)) HM.out.2.1 _ _ _ _ _ _ _
    clear hv3 Kb2 Kr2 KX2 F2 R5 R6 b2
    clear lt_x r_x0 z_x0 r_x1 z_x1 r_x2 z_x2 r_x3 z_x3 r_x4 z_x4 r_x5 z_x5 r_x6 z_x6
    have lt_b := Kb.out.lt
    obtain ⟨r_b0, r_b1, r_b2, r_b3, r_b4, r_b5, r_b6, r_b7, r_b8⟩ := bc9 Kb.out
    have lt_x := KX.out.lt
    have r_x0 : v3.cell? ⟨g, 0, none⟩ = some (.int .i64 i0) := KX.out.cell 0
    have z_x0 := KX.out.frozen 0
    have r_x1 : v3.cell? ⟨g, 1, none⟩ = some (.int .i64 t0) := KX.out.cell 1
    have z_x1 := KX.out.frozen 1
    have r_x2 : v3.cell? ⟨g, 2, none⟩ = some (.slice A5 n c5) := KX.out.cell 2
    have z_x2 := KX.out.frozen 2
    have r_x3 : v3.cell? ⟨g, 3, none⟩ = some (.slice B5 m d5) := KX.out.cell 3
    have z_x3 := KX.out.frozen 3
    have r_x4 : v3.cell? ⟨g, 4, none⟩ = some (.int .i64 l0) := KX.out.cell 4
    have z_x4 := KX.out.frozen 4
    have r_x5 : v3.cell? ⟨g, 5, none⟩ = some (.int .i64 l1) := KX.out.cell 5
    have z_x5 := KX.out.frozen 5
    have r_x6 : v3.cell? ⟨g, 6, none⟩ = some (.int .i64 l2) := KX.out.cell 6
    have z_x6 := KX.out.frozen 6
    have ngb : ¬ g = g1 := by omega
    have nbg : ¬ g1 = g := by omega
    go_cut [] (fun wx => Hid (Blk wx g 37 #[.int .i64 ex, .int .i64 et, .slice A5 n c5, .slice B5 m d5, .int .i64 l0, .int .i64 l1, .int .i64 l2]) ∧ Hid (Below w.heap.size w wx) ∧ Hid (Blk wx g2 37 #[.int .i64 0, .int .i64 0, .slice none 0 0, .slice none 0 0, .int .i64 0, .int .i64 0, .int .i64 0]) ∧ Hid (Row wx w.heap.size 106 2 A5 n c5 (PR pl)) ∧ Hid (Row wx w.heap.size 71 5 B5 m d5 (JB ql)))
    case first =>
      have hS0 : ∀ b o, b < g → v3.cell? ⟨b, o, none⟩ = v3.cell? ⟨b, o, none⟩ := fun b o hb => rfl
      have lbg : g1 < g := by omega
      go_region_held_law (fun w' => ∀ b o, b < g → w'.cell? ⟨b, o, none⟩ = v3.cell? ⟨b, o, none⟩) (repeat' (first | with_reducible assumption | with_reducible exact Nat.le_refl _ | with_reducible exact hS0 | with_reducible refine hl_drew ?_ | with_reducible refine hl_set ?_ ?_ _ _)) (fail)
      all_goals
        go_wp2_with fail
        go_meet
        first
          | exact ⟨Lib.hid (((KX.out.drew).set_ 0 _).set_ 1 _), Lib.hid (((F1.out.drew).setCell (p := ⟨g, 0, none⟩) (by show w.heap.size ≤ g; omega) _).setCell (p := ⟨g, 1, none⟩) (by show w.heap.size ≤ g; omega) _), Lib.hid (((Kr.out.drew).far (p := ⟨g, 0, none⟩) (show g2 ≠ g by omega) _).far (p := ⟨g, 1, none⟩) (show g2 ≠ g by omega) _), Lib.hid (((RP.out.drew).far (p := ⟨g, 0, none⟩) HM.out.1 _).far (p := ⟨g, 1, none⟩) HM.out.1 _), Lib.hid (((RQ.out.drew).far (p := ⟨g, 0, none⟩) HM.out.2.1 _).far (p := ⟨g, 1, none⟩) HM.out.2.1 _)⟩
          | exact ⟨Lib.hid (((KX.out.drew).set_ 1 _).set_ 0 _), Lib.hid (((F1.out.drew).setCell (p := ⟨g, 1, none⟩) (by show w.heap.size ≤ g; omega) _).setCell (p := ⟨g, 0, none⟩) (by show w.heap.size ≤ g; omega) _), Lib.hid (((Kr.out.drew).far (p := ⟨g, 1, none⟩) (show g2 ≠ g by omega) _).far (p := ⟨g, 0, none⟩) (show g2 ≠ g by omega) _), Lib.hid (((RP.out.drew).far (p := ⟨g, 1, none⟩) HM.out.1 _).far (p := ⟨g, 0, none⟩) HM.out.1 _), Lib.hid (((RQ.out.drew).far (p := ⟨g, 1, none⟩) HM.out.2.1 _).far (p := ⟨g, 0, none⟩) HM.out.2.1 _)⟩
    case rest =>
      clear lt_b r_b0 r_b1 r_b2 r_b3 r_b4 r_b5 r_b6 r_b7 r_b8
      clear lt_x r_x0 z_x0 r_x1 z_x1 r_x2 z_x2 r_x3 z_x3 r_x4 z_x4 r_x5 z_x5 r_x6 z_x6
      obtain ⟨KX2, F2, Kr2, RP2, RQ2⟩ := hcut
      rename World => v4
      clear KX
      clear Kb Kr RP RQ F1
      have ngr : ¬ g = g2 := by omega
      have nrg : ¬ g2 = g := by omega
      have lt_x := KX2.out.lt
      have r_x0 : v4.cell? ⟨g, 0, none⟩ = some (.int .i64 ex) := KX2.out.cell 0
      have z_x0 := KX2.out.frozen 0
      have r_x1 : v4.cell? ⟨g, 1, none⟩ = some (.int .i64 et) := KX2.out.cell 1
      have z_x1 := KX2.out.frozen 1
      have r_x2 : v4.cell? ⟨g, 2, none⟩ = some (.slice A5 n c5) := KX2.out.cell 2
      have z_x2 := KX2.out.frozen 2
      have r_x3 : v4.cell? ⟨g, 3, none⟩ = some (.slice B5 m d5) := KX2.out.cell 3
      have z_x3 := KX2.out.frozen 3
      have r_x4 : v4.cell? ⟨g, 4, none⟩ = some (.int .i64 l0) := KX2.out.cell 4
      have z_x4 := KX2.out.frozen 4
      have r_x5 : v4.cell? ⟨g, 5, none⟩ = some (.int .i64 l1) := KX2.out.cell 5
      have z_x5 := KX2.out.frozen 5
      have r_x6 : v4.cell? ⟨g, 6, none⟩ = some (.int .i64 l2) := KX2.out.cell 6
      have z_x6 := KX2.out.frozen 6
      have lt_r := Kr2.out.lt
      have r_r0 : v4.cell? ⟨g2, 0, none⟩ = some (.int .i64 0) := Kr2.out.cell 0
      have z_r0 := Kr2.out.frozen 0
      have r_r1 : v4.cell? ⟨g2, 1, none⟩ = some (.int .i64 0) := Kr2.out.cell 1
      have z_r1 := Kr2.out.frozen 1
      have r_r2 : v4.cell? ⟨g2, 2, none⟩ = some (.slice none 0 0) := Kr2.out.cell 2
      have z_r2 := Kr2.out.frozen 2
      have r_r3 : v4.cell? ⟨g2, 3, none⟩ = some (.slice none 0 0) := Kr2.out.cell 3
      have z_r3 := Kr2.out.frozen 3
      have r_r4 : v4.cell? ⟨g2, 4, none⟩ = some (.int .i64 0) := Kr2.out.cell 4
      have z_r4 := Kr2.out.frozen 4
      have r_r5 : v4.cell? ⟨g2, 5, none⟩ = some (.int .i64 0) := Kr2.out.cell 5
      have z_r5 := Kr2.out.frozen 5
      have r_r6 : v4.cell? ⟨g2, 6, none⟩ = some (.int .i64 0) := Kr2.out.cell 6
      have z_r6 := Kr2.out.frozen 6
      go_wp21
      refine bodyPost_ret (v := .tuple #[.agg #[.int .i64 ex, .int .i64 et, .slice A5 n c5, .slice B5 m d5, .int .i64 l0, .int .i64 l1, .int .i64 l2], .int .i64 0]) (by simp [results, Tryz.results43, go_sem, *]) rfl ?_
      exact RetStateV.mk hL.out hR.out (row_far7 RP2.out HM.out.2.2.1 _ _ _ _ _ _ _) (row_far7 RQ2.out HM.out.2.2.2 _ _ _ _ _ _ _) HAP.out (below_far7 F2.out (show w.heap.size ≤ g2 by omega) _ _ _ _ _ _ _)
end Go.Proofs.YtokklkmibjpjnaaGreat
namespace Go.Proofs.YtokklkmibjpjnaaGreat
set_option linter.unusedSimpArgs false
set_option linter.unusedVariables false
attribute [local go_sem] n_lt2 n_lt3 n_lt4 n_le2 n_le3
open Go.RowKit
attribute [local go_sem] Ext.cell Ext.frozen
set_option maxRecDepth 100000 in
set_option maxHeartbeats 8000000 in
theorem applied_no5 (A : Option Addr) (n c : Nat) (B : Option Addr) (m d : Nat) (i0 t0 l0 l1 l2 : Int) (pl : List Pr) (ql : List Jb) (ex et ec es ea eb eg eh : Int) (w : World) (hP : Sl w 2 A n (PR pl)) (hQ : Sl w 5 B m (JB ql)) (hl : pl.length = n) (hr : ql.length = m) (hn : n ≤ 1000) (hm : m ≤ 1000) (hA : A = none → n = 0 ∧ c = 0) (hB : B = none → m = 0 ∧ d = 0) (p2 : List Pr) (q2 : List Jb) (h2 e2 u2 : Int) (hE : Hid (effE l0 l1 l2 pl ql ex et ec es 5 ea eb eg eh = (⟨p2, q2, h2, e2, u2⟩, false))) :
    Calls Tryz.prog 43 #[.agg #[.int .i64 i0, .int .i64 t0, .slice A n c, .slice B m d, .int .i64 l0, .int .i64 l1, .int .i64 l2], .agg #[.int .i64 ex, .int .i64 et, .int .i64 ec, .int .i64 es, .int .i64 5, .int .i64 ea, .int .i64 eb, .int .i64 eg, .int .i64 eh]] w (RetStateV w ex et l0 l1 l2 pl.length (PR pl) ql.length (JB ql) (.int .i64 0)) := by
  have HP := Lib.hid hP
  have HQ := Lib.hid hQ
  have HA := Lib.hid hA
  have HB := Lib.hid hB
  have hL := Lib.hid hl
  have hR := Lib.hid hr
  clear hP hQ hA hB hl hr
  go_enter Tryz.func43, Tryz.ntmps43
  go_upto_region 1 with fail
  obtain ⟨v0, hv0⟩ : ∃ x : World, x = (((w.alloc (.cells #[.int .i64 i0, .int .i64 t0, .slice A n c, .slice B m d, .int .i64 l0, .int .i64 l1, .int .i64 l2] 37)).alloc (.cells #[.int .i64 ex, .int .i64 et, .int .i64 ec, .int .i64 es, .int .i64 5, .int .i64 ea, .int .i64 eb, .int .i64 eg, .int .i64 eh] 43)).alloc (.cells #[.int .i64 0, .int .i64 0, .slice none 0 0, .slice none 0 0, .int .i64 0, .int .i64 0, .int .i64 0] 37)) := ⟨_, rfl⟩
  rw [← hv0]
  have f0 : Below w.heap.size w v0 := by rw [hv0]; (repeat' (first | (with_reducible exact Below.refl _ _) | (with_reducible assumption) | (with_reducible refine Below.alloc ?_ ?_ _) | (with_reducible refine Below.drew ?_) | (with_reducible refine Below.setCell ?_ ?_ _) | (with_reducible refine bstep (by assumption) ?_ ?_) | (with_reducible exact Nat.le_refl _) | omega | (simp [*]; done) | (simp [*]; omega)))
  have z0 : w.heap.size + 3 ≤ v0.heap.size := by rw [hv0]; simp [size_set]
  have HP_0 := Lib.hid (HP.out.below f0)
  have HP_lt := Lib.hid (fun hn => HP.out.lt hn)
  have HQ_0 := Lib.hid (HQ.out.below f0)
  have HQ_lt := Lib.hid (fun hn => HQ.out.lt hn)
  have Ha_0 : Hid (Blk v0 w.heap.size 37 #[.int .i64 i0, .int .i64 t0, .slice A n c, .slice B m d, .int .i64 l0, .int .i64 l1, .int .i64 l2]) := by rw [hv0]; exact ((Blk.new_at _ _ _ _ (by simp)).alloc _).alloc _
  have Hb_0 : Hid (Blk v0 (w.heap.size + 1) 43 #[.int .i64 ex, .int .i64 et, .int .i64 ec, .int .i64 es, .int .i64 5, .int .i64 ea, .int .i64 eb, .int .i64 eg, .int .i64 eh]) := by rw [hv0]; exact (Blk.new_at _ _ _ _ (by simp)).alloc _
  have Hr_0 : Hid (Blk v0 (w.heap.size + 1 + 1) 37 #[.int .i64 0, .int .i64 0, .slice none 0 0, .slice none 0 0, .int .i64 0, .int .i64 0, .int .i64 0]) := by rw [hv0]; exact Blk.new_at _ _ _ _ (by simp)
  clear hv0
  generalize hg2 : w.heap.size + 1 + 1 = g2 at *
  generalize hg1 : w.heap.size + 1 = g1 at *
  have lg1 : w.heap.size < g1 := by omega
  have lg2 : g1 < g2 := by omega
  have lgz : g2 < v0.heap.size := by omega
  have nq1x0 : ¬ g1 = w.heap.size := by omega
  have nq0x1 : ¬ w.heap.size = g1 := by omega
  have nq2x0 : ¬ g2 = w.heap.size := by omega
  have nq0x2 : ¬ w.heap.size = g2 := by omega
  have nq2x1 : ¬ g2 = g1 := by omega
  have nq1x2 : ¬ g1 = g2 := by omega
  clear hg1 hg2
  have lt_a := Ha_0.out.lt
  obtain ⟨r_a0, r_a1, r_a2, r_a3, r_a4, r_a5, r_a6⟩ := bc7 Ha_0.out
  have lt_b := Hb_0.out.lt
  obtain ⟨r_b0, r_b1, r_b2, r_b3, r_b4, r_b5, r_b6, r_b7, r_b8⟩ := bc9 Hb_0.out
  go_cut [6, 7] (fun pv ov wx => ∃ (g : Nat) (A1 : Option Addr) (n1 c1 : Nat) (B1 : Option Addr) (m1 d1 : Nat) (x0 x1 x2 : Int), pv = .pointer (some ⟨g, 0, none⟩) ∧ ov = .bool false ∧ g2 < g ∧ v0.heap.size ≤ g ∧ Hid (Blk wx g 37 #[.int .i64 i0, .int .i64 t0, .slice A1 n1 c1, .slice B1 m1 d1, .int .i64 x0, .int .i64 x1, .int .i64 x2]) ∧ Hid (Below v0.heap.size v0 wx))
  case first =>
    have hnm : n ≤ maxLen := by unfold maxLen; omega
    have hmm : m ≤ maxLen := by unfold maxLen; omega
    have hS0 : ∀ b o, b < v0.heap.size → v0.cell? ⟨b, o, none⟩ = v0.cell? ⟨b, o, none⟩ := fun b o hb => rfl
    have ix : ∀ wz : World, (Instr.index 116 (.agg #[.nilFunc, .func (.func 97) #[] #[], .func (.func 99) #[] #[], .func (.func 101) #[] #[], .func (.func 103) #[] #[], .func (.func 107) #[] #[]]) (.int .i64 5)).run Tryz.prog wz = .ok (.func (.func 107) #[] #[]) wz := fun _ => by kernel_rfl
    go_region_held_law (fun w' => ∀ b o, b < v0.heap.size → w'.cell? ⟨b, o, none⟩ = v0.cell? ⟨b, o, none⟩) (repeat' (first | with_reducible assumption | with_reducible exact Nat.le_refl _ | with_reducible exact hS0 | with_reducible refine hl_drew ?_ | with_reducible refine hl_alloc ?_ ?_ _ | with_reducible refine hl_set7 ?_ ?_ _ _ _ _ _ _ _)) (first | (go_at_call 82; refine (effects_any _).mono ?_; rintro e u1 ⟨rfl, b1⟩; (first | (have KB : Blk u1 v0.heap.size 37 #[.int .i64 0, .int .i64 0, .slice none 0 0, .slice none 0 0, .int .i64 0, .int .i64 0, .int .i64 0] := by with_reducible exact t_below2 b1 (Blk.new_at _ _ _ _ rfl)) | (have KB : Blk u1 v0.heap.size 37 #[.int .i64 0, .int .i64 0, .slice none 0 0, .slice none 0 0, .int .i64 0, .int .i64 0, .int .i64 0] := by with_reducible exact t_below2 b1 (Blk.drew (Blk.new_at _ _ _ _ rfl))) | (have KB : Blk u1 v0.heap.size 37 #[.int .i64 0, .int .i64 0, .slice none 0 0, .slice none 0 0, .int .i64 0, .int .i64 0, .int .i64 0] := by with_reducible exact t_below2 b1 (Blk.new_at _ _ _ _ (t_drew_size _))) | (replace KB := t_below2 b1 KB) | (replace KB := t_below2 b1 (Blk.drew KB)) | skip); have E1 : Below v0.heap.size v0 u1 := (by first | with_reducible exact b1 | with_reducible exact tb_dr b1 | with_reducible exact tb_al b1 | with_reducible exact tb_da b1 | with_reducible exact tb_ad b1); have H1 := E1; have y1 := H1.size; have hS1 : ∀ b o, b < v0.heap.size → u1.cell? ⟨b, o, none⟩ = v0.cell? ⟨b, o, none⟩ := fun b o hb => H1.cell (p := ⟨b, o, none⟩) hb; have HPu := Lib.hid (HP_0.out.below E1); have HQu := Lib.hid (HQ_0.out.below E1)) | (go_at_call 107; refine (eff5_R A n c B m d i0 t0 l0 l1 l2 pl ql ex et ec es ea eb eg eh _ (by first | with_reducible exact HPu.out | with_reducible exact Sl.alloc HPu.out _) (by first | with_reducible exact HQu.out | with_reducible exact Sl.alloc HQu.out _) hL.out hR.out hnm hmm HA.out HB.out w.heap.size HP_lt.out HQ_lt.out p2 q2 h2 e2 u2 false hE).mono ?_; rintro e u2_ ⟨A1, n1, c1, B1, m1, d1, x0, x1, x2, rfl, b2, hx⟩; (first | (have KB : Blk u2_ u1.heap.size 37 #[.int .i64 0, .int .i64 0, .slice none 0 0, .slice none 0 0, .int .i64 0, .int .i64 0, .int .i64 0] := by with_reducible exact t_below2 b2 (Blk.new_at _ _ _ _ rfl)) | (have KB : Blk u2_ u1.heap.size 37 #[.int .i64 0, .int .i64 0, .slice none 0 0, .slice none 0 0, .int .i64 0, .int .i64 0, .int .i64 0] := by with_reducible exact t_below2 b2 (Blk.drew (Blk.new_at _ _ _ _ rfl))) | (have KB : Blk u2_ u1.heap.size 37 #[.int .i64 0, .int .i64 0, .slice none 0 0, .slice none 0 0, .int .i64 0, .int .i64 0, .int .i64 0] := by with_reducible exact t_below2 b2 (Blk.new_at _ _ _ _ (t_drew_size _))) | (replace KB := t_below2 b2 KB) | (replace KB := t_below2 b2 (Blk.drew KB)) | skip); have E2 : Below u1.heap.size u1 u2_ := (by first | with_reducible exact b2 | with_reducible exact tb_dr b2 | with_reducible exact tb_al b2 | with_reducible exact tb_da b2 | with_reducible exact tb_ad b2); have H2 := bthen H1 E2; have y2 := H2.size; have hS2 : ∀ b o, b < v0.heap.size → u2_.cell? ⟨b, o, none⟩ = v0.cell? ⟨b, o, none⟩ := fun b o hb => H2.cell (p := ⟨b, o, none⟩) hb; (try (have kb0 := KB.cell 0)); (try (have kf0 := KB.frozen 0)); (try (have kb1 := KB.cell 1)); (try (have kf1 := KB.frozen 1)); (try (have kb2 := KB.cell 2)); (try (have kf2 := KB.frozen 2)); (try (have kb3 := KB.cell 3)); (try (have kf3 := KB.frozen 3)); (try (have kb4 := KB.cell 4)); (try (have kf4 := KB.frozen 4)); (try (have kb5 := KB.cell 5)); (try (have kf5 := KB.frozen 5)); (try (have kb6 := KB.cell 6)); (try (have kf6 := KB.frozen 6)); (try (have kbl := KB.lt))))
    all_goals
      have s1 := b1.size
      have s2 := b2.size
      (try simp only [t_size_alloc, ← t_drew_size] at s1)
      (try simp only [t_size_alloc, ← t_drew_size] at s2)
      go_wp2_with fail
      go_meet
      first
        | (with_reducible refine ⟨u2_.heap.size, A1, n1, c1, B1, m1, d1, x0, x1, x2, rfl, rfl, ?_, ?_, ?_, ?_⟩
           · omega
           · omega
           · exact Lib.hid (Blk.new_at _ _ _ _ rfl)
           · exact Lib.hid (H2.alloc y2 _))
        | (with_reducible refine ⟨u1.heap.size, A1, n1, c1, B1, m1, d1, x0, x1, x2, rfl, rfl, ?_, ?_, ?_, ?_⟩
           · omega
           · omega
           · exact Lib.hid (((((((KB.set_ 0 _).set_ 1 _).set_ 2 _).set_ 3 _).set_ 4 _).set_ 5 _).set_ 6 _)
           · exact Lib.hid (below_far7 H2 (by omega) _ _ _ _ _ _ _))
        | (with_reducible refine ⟨v0.heap.size, A1, n1, c1, B1, m1, d1, x0, x1, x2, rfl, rfl, ?_, ?_, ?_, ?_⟩
           · omega
           · omega
           · exact Lib.hid (((((((KB.set_ 0 _).set_ 1 _).set_ 2 _).set_ 3 _).set_ 4 _).set_ 5 _).set_ 6 _)
           · exact Lib.hid (below_far7 H2 (by omega) _ _ _ _ _ _ _))
  case rest =>
    obtain ⟨g, A1, n1, c1, B1, m1, d1, x0, x1, x2, rfl, rfl, hg2, hgz, KX, E1⟩ := hcut
    rename World => v1
    clear lt_a r_a0 r_a1 r_a2 r_a3 r_a4 r_a5 r_a6 lt_b r_b0 r_b1 r_b2 r_b3 r_b4 r_b5 r_b6 r_b7 r_b8
    have F1 := Lib.hid (bthen f0 E1.out)
    have y1 := E1.out.size
    have Ka := Lib.hid (Ha_0.out.below E1.out)
    have Kb := Lib.hid (Hb_0.out.below E1.out)
    have Kr := Lib.hid (Hr_0.out.below E1.out)
    have HP1 := Lib.hid (HP_0.out.below E1.out)
    have HQ1 := Lib.hid (HQ_0.out.below E1.out)
    clear Ha_0 Hb_0 Hr_0 HP_0 HQ_0 HP_lt HQ_lt HP HQ
    have lt_a := Ka.out.lt
    obtain ⟨r_a0, r_a1, r_a2, r_a3, r_a4, r_a5, r_a6⟩ := bc7 Ka.out
    have lt_x := KX.out.lt
    have r_x0 : v1.cell? ⟨g, 0, none⟩ = some (.int .i64 i0) := KX.out.cell 0
    have z_x0 := KX.out.frozen 0
    have r_x1 : v1.cell? ⟨g, 1, none⟩ = some (.int .i64 t0) := KX.out.cell 1
    have z_x1 := KX.out.frozen 1
    have r_x2 : v1.cell? ⟨g, 2, none⟩ = some (.slice A1 n1 c1) := KX.out.cell 2
    have z_x2 := KX.out.frozen 2
    have r_x3 : v1.cell? ⟨g, 3, none⟩ = some (.slice B1 m1 d1) := KX.out.cell 3
    have z_x3 := KX.out.frozen 3
    have r_x4 : v1.cell? ⟨g, 4, none⟩ = some (.int .i64 x0) := KX.out.cell 4
    have z_x4 := KX.out.frozen 4
    have r_x5 : v1.cell? ⟨g, 5, none⟩ = some (.int .i64 x1) := KX.out.cell 5
    have z_x5 := KX.out.frozen 5
    have r_x6 : v1.cell? ⟨g, 6, none⟩ = some (.int .i64 x2) := KX.out.cell 6
    have z_x6 := KX.out.frozen 6
    go_wp2_with fail
    refine (copyState_any A n c B m d i0 t0 l0 l1 l2 pl ql _ HP1.out HQ1.out hL.out hR.out hn hm HA.out HB.out).mono ?_
    rintro e v2 ⟨A5, c5, B5, d5, rfl, R5, R6, hap, b2⟩
    clear lt_a r_a0 r_a1 r_a2 r_a3 r_a4 r_a5 r_a6
    clear lt_x r_x0 z_x0 r_x1 z_x1 r_x2 z_x2 r_x3 z_x3 r_x4 z_x4 r_x5 z_x5 r_x6 z_x6
    have Kb2 := Kb.out.below b2
    have Kr2 := Kr.out.below b2
    have KX2 := KX.out.below b2
    have F2 := bthen F1.out b2
    have y2 := b2.size
    have lx := KX.out.lt
    have n5 : ∀ a, A5 = some a → a.block ≠ g := fun a ha => by have := R5.ge a ha; omega
    have n6 : ∀ a, B5 = some a → a.block ≠ g := fun a ha => by have := R6.ge a ha; omega
    have m5 : ∀ a, A5 = some a → a.block ≠ g2 := fun a ha => by have := R5.ge a ha; omega
    have m6 : ∀ a, B5 = some a → a.block ≠ g2 := fun a ha => by have := R6.ge a ha; omega
    have HM := Lib.hid (And.intro n5 (And.intro n6 (And.intro m5 m6)))
    have HAP := Lib.hid hap
    clear n5 n6 m5 m6 hap Ka Kb Kr KX F1 HP1 HQ1
    have lt_x := KX2.lt
    have r_x0 : v2.cell? ⟨g, 0, none⟩ = some (.int .i64 i0) := KX2.cell 0
    have z_x0 := KX2.frozen 0
    have r_x1 : v2.cell? ⟨g, 1, none⟩ = some (.int .i64 t0) := KX2.cell 1
    have z_x1 := KX2.frozen 1
    have r_x2 : v2.cell? ⟨g, 2, none⟩ = some (.slice A1 n1 c1) := KX2.cell 2
    have z_x2 := KX2.frozen 2
    have r_x3 : v2.cell? ⟨g, 3, none⟩ = some (.slice B1 m1 d1) := KX2.cell 3
    have z_x3 := KX2.frozen 3
    have r_x4 : v2.cell? ⟨g, 4, none⟩ = some (.int .i64 x0) := KX2.cell 4
    have z_x4 := KX2.frozen 4
    have r_x5 : v2.cell? ⟨g, 5, none⟩ = some (.int .i64 x1) := KX2.cell 5
    have z_x5 := KX2.frozen 5
    have r_x6 : v2.cell? ⟨g, 6, none⟩ = some (.int .i64 x2) := KX2.cell 6
    have z_x6 := KX2.frozen 6
    go_upto_region 4 with fail
    obtain ⟨v3, hv3⟩ : ∃ x : World, x = (((((((v2.setCell ⟨g, 0, none⟩ (.int .i64 i0)).setCell ⟨g, 1, none⟩ (.int .i64 t0)).setCell ⟨g, 2, none⟩ (.slice A5 n c5)).setCell ⟨g, 3, none⟩ (.slice B5 m d5)).setCell ⟨g, 4, none⟩ (.int .i64 l0)).setCell ⟨g, 5, none⟩ (.int .i64 l1)).setCell ⟨g, 6, none⟩ (.int .i64 l2)) := ⟨_, rfl⟩
    rw [← hv3]
    have KX : Hid (Blk v3 g 37 #[.int .i64 i0, .int .i64 t0, .slice A5 n c5, .slice B5 m d5, .int .i64 l0, .int .i64 l1, .int .i64 l2]) := by rw [hv3]; exact ((((((KX2.set_ 0 _).set_ 1 _).set_ 2 _).set_ 3 _).set_ 4 _).set_ 5 _).set_ 6 _
    have Kb : Hid (Blk v3 g1 43 #[.int .i64 ex, .int .i64 et, .int .i64 ec, .int .i64 es, .int .i64 5, .int .i64 ea, .int .i64 eb, .int .i64 eg, .int .i64 eh]) := by rw [hv3]; exact (((((((Kb2).far (p := ⟨g, 0, none⟩) (show g1 ≠ g by omega) _).far (p := ⟨g, 1, none⟩) (show g1 ≠ g by omega) _).far (p := ⟨g, 2, none⟩) (show g1 ≠ g by omega) _).far (p := ⟨g, 3, none⟩) (show g1 ≠ g by omega) _).far (p := ⟨g, 4, none⟩) (show g1 ≠ g by omega) _).far (p := ⟨g, 5, none⟩) (show g1 ≠ g by omega) _).far (p := ⟨g, 6, none⟩) (show g1 ≠ g by omega) _
    have Kr : Hid (Blk v3 g2 37 #[.int .i64 0, .int .i64 0, .slice none 0 0, .slice none 0 0, .int .i64 0, .int .i64 0, .int .i64 0]) := by rw [hv3]; exact (((((((Kr2).far (p := ⟨g, 0, none⟩) (show g2 ≠ g by omega) _).far (p := ⟨g, 1, none⟩) (show g2 ≠ g by omega) _).far (p := ⟨g, 2, none⟩) (show g2 ≠ g by omega) _).far (p := ⟨g, 3, none⟩) (show g2 ≠ g by omega) _).far (p := ⟨g, 4, none⟩) (show g2 ≠ g by omega) _).far (p := ⟨g, 5, none⟩) (show g2 ≠ g by omega) _).far (p := ⟨g, 6, none⟩) (show g2 ≠ g by omega) _
    have F1 : Hid (Below w.heap.size w v3) := by rw [hv3]; exact below_far7 F2 (by omega) _ _ _ _ _ _ _
    have RP : Hid (Row v3 w.heap.size 106 2 A5 n c5 (PR pl)) := by rw [hv3]; exact row_far7 (R5.mono (by omega)) HM.out.1 _ _ _ _ _ _ _
    have RQ : Hid (Row v3 w.heap.size 71 5 B5 m d5 (JB ql)) := by rw [hv3]; exact row_far7 (R6.mono (by omega)) HM.out.2.1 _ _ _ _ _ _ _
    clear hv3 Kb2 Kr2 KX2 F2 R5 R6 b2
    clear lt_x r_x0 z_x0 r_x1 z_x1 r_x2 z_x2 r_x3 z_x3 r_x4 z_x4 r_x5 z_x5 r_x6 z_x6
    have lt_b := Kb.out.lt
    obtain ⟨r_b0, r_b1, r_b2, r_b3, r_b4, r_b5, r_b6, r_b7, r_b8⟩ := bc9 Kb.out
    have lt_x := KX.out.lt
    have r_x0 : v3.cell? ⟨g, 0, none⟩ = some (.int .i64 i0) := KX.out.cell 0
    have z_x0 := KX.out.frozen 0
    have r_x1 : v3.cell? ⟨g, 1, none⟩ = some (.int .i64 t0) := KX.out.cell 1
    have z_x1 := KX.out.frozen 1
    have r_x2 : v3.cell? ⟨g, 2, none⟩ = some (.slice A5 n c5) := KX.out.cell 2
    have z_x2 := KX.out.frozen 2
    have r_x3 : v3.cell? ⟨g, 3, none⟩ = some (.slice B5 m d5) := KX.out.cell 3
    have z_x3 := KX.out.frozen 3
    have r_x4 : v3.cell? ⟨g, 4, none⟩ = some (.int .i64 l0) := KX.out.cell 4
    have z_x4 := KX.out.frozen 4
    have r_x5 : v3.cell? ⟨g, 5, none⟩ = some (.int .i64 l1) := KX.out.cell 5
    have z_x5 := KX.out.frozen 5
    have r_x6 : v3.cell? ⟨g, 6, none⟩ = some (.int .i64 l2) := KX.out.cell 6
    have z_x6 := KX.out.frozen 6
    have ngb : ¬ g = g1 := by omega
    have nbg : ¬ g1 = g := by omega
    go_cut [] (fun wx => Hid (Blk wx g 37 #[.int .i64 ex, .int .i64 et, .slice A5 n c5, .slice B5 m d5, .int .i64 l0, .int .i64 l1, .int .i64 l2]) ∧ Hid (Below w.heap.size w wx) ∧ Hid (Blk wx g2 37 #[.int .i64 0, .int .i64 0, .slice none 0 0, .slice none 0 0, .int .i64 0, .int .i64 0, .int .i64 0]) ∧ Hid (Row wx w.heap.size 106 2 A5 n c5 (PR pl)) ∧ Hid (Row wx w.heap.size 71 5 B5 m d5 (JB ql)))
    case first =>
      have hS0 : ∀ b o, b < g → v3.cell? ⟨b, o, none⟩ = v3.cell? ⟨b, o, none⟩ := fun b o hb => rfl
      have lbg : g1 < g := by omega
      go_region_held_law (fun w' => ∀ b o, b < g → w'.cell? ⟨b, o, none⟩ = v3.cell? ⟨b, o, none⟩) (repeat' (first | with_reducible assumption | with_reducible exact Nat.le_refl _ | with_reducible exact hS0 | with_reducible refine hl_drew ?_ | with_reducible refine hl_set ?_ ?_ _ _)) (fail)
      all_goals
        go_wp2_with fail
        go_meet
        first
          | exact ⟨Lib.hid (((KX.out.drew).set_ 0 _).set_ 1 _), Lib.hid (((F1.out.drew).setCell (p := ⟨g, 0, none⟩) (by show w.heap.size ≤ g; omega) _).setCell (p := ⟨g, 1, none⟩) (by show w.heap.size ≤ g; omega) _), Lib.hid (((Kr.out.drew).far (p := ⟨g, 0, none⟩) (show g2 ≠ g by omega) _).far (p := ⟨g, 1, none⟩) (show g2 ≠ g by omega) _), Lib.hid (((RP.out.drew).far (p := ⟨g, 0, none⟩) HM.out.1 _).far (p := ⟨g, 1, none⟩) HM.out.1 _), Lib.hid (((RQ.out.drew).far (p := ⟨g, 0, none⟩) HM.out.2.1 _).far (p := ⟨g, 1, none⟩) HM.out.2.1 _)⟩
          | exact ⟨Lib.hid (((KX.out.drew).set_ 1 _).set_ 0 _), Lib.hid (((F1.out.drew).setCell (p := ⟨g, 1, none⟩) (by show w.heap.size ≤ g; omega) _).setCell (p := ⟨g, 0, none⟩) (by show w.heap.size ≤ g; omega) _), Lib.hid (((Kr.out.drew).far (p := ⟨g, 1, none⟩) (show g2 ≠ g by omega) _).far (p := ⟨g, 0, none⟩) (show g2 ≠ g by omega) _), Lib.hid (((RP.out.drew).far (p := ⟨g, 1, none⟩) HM.out.1 _).far (p := ⟨g, 0, none⟩) HM.out.1 _), Lib.hid (((RQ.out.drew).far (p := ⟨g, 1, none⟩) HM.out.2.1 _).far (p := ⟨g, 0, none⟩) HM.out.2.1 _)⟩
    case rest =>
      clear lt_b r_b0 r_b1 r_b2 r_b3 r_b4 r_b5 r_b6 r_b7 r_b8
      clear lt_x r_x0 z_x0 r_x1 z_x1 r_x2 z_x2 r_x3 z_x3 r_x4 z_x4 r_x5 z_x5 r_x6 z_x6
      obtain ⟨KX2, F2, Kr2, RP2, RQ2⟩ := hcut
      rename World => v4
      clear KX
      clear Kb Kr RP RQ F1
      have ngr : ¬ g = g2 := by omega
      have nrg : ¬ g2 = g := by omega
      have lt_x := KX2.out.lt
      have r_x0 : v4.cell? ⟨g, 0, none⟩ = some (.int .i64 ex) := KX2.out.cell 0
      have z_x0 := KX2.out.frozen 0
      have r_x1 : v4.cell? ⟨g, 1, none⟩ = some (.int .i64 et) := KX2.out.cell 1
      have z_x1 := KX2.out.frozen 1
      have r_x2 : v4.cell? ⟨g, 2, none⟩ = some (.slice A5 n c5) := KX2.out.cell 2
      have z_x2 := KX2.out.frozen 2
      have r_x3 : v4.cell? ⟨g, 3, none⟩ = some (.slice B5 m d5) := KX2.out.cell 3
      have z_x3 := KX2.out.frozen 3
      have r_x4 : v4.cell? ⟨g, 4, none⟩ = some (.int .i64 l0) := KX2.out.cell 4
      have z_x4 := KX2.out.frozen 4
      have r_x5 : v4.cell? ⟨g, 5, none⟩ = some (.int .i64 l1) := KX2.out.cell 5
      have z_x5 := KX2.out.frozen 5
      have r_x6 : v4.cell? ⟨g, 6, none⟩ = some (.int .i64 l2) := KX2.out.cell 6
      have z_x6 := KX2.out.frozen 6
      have lt_r := Kr2.out.lt
      have r_r0 : v4.cell? ⟨g2, 0, none⟩ = some (.int .i64 0) := Kr2.out.cell 0
      have z_r0 := Kr2.out.frozen 0
      have r_r1 : v4.cell? ⟨g2, 1, none⟩ = some (.int .i64 0) := Kr2.out.cell 1
      have z_r1 := Kr2.out.frozen 1
      have r_r2 : v4.cell? ⟨g2, 2, none⟩ = some (.slice none 0 0) := Kr2.out.cell 2
      have z_r2 := Kr2.out.frozen 2
      have r_r3 : v4.cell? ⟨g2, 3, none⟩ = some (.slice none 0 0) := Kr2.out.cell 3
      have z_r3 := Kr2.out.frozen 3
      have r_r4 : v4.cell? ⟨g2, 4, none⟩ = some (.int .i64 0) := Kr2.out.cell 4
      have z_r4 := Kr2.out.frozen 4
      have r_r5 : v4.cell? ⟨g2, 5, none⟩ = some (.int .i64 0) := Kr2.out.cell 5
      have z_r5 := Kr2.out.frozen 5
      have r_r6 : v4.cell? ⟨g2, 6, none⟩ = some (.int .i64 0) := Kr2.out.cell 6
      have z_r6 := Kr2.out.frozen 6
      go_wp21
      refine bodyPost_ret (v := .tuple #[.agg #[.int .i64 ex, .int .i64 et, .slice A5 n c5, .slice B5 m d5, .int .i64 l0, .int .i64 l1, .int .i64 l2], .int .i64 0]) (by simp [results, Tryz.results43, go_sem, *]) rfl ?_
      exact RetStateV.mk hL.out hR.out (row_far7 RP2.out HM.out.2.2.1 _ _ _ _ _ _ _) (row_far7 RQ2.out HM.out.2.2.2 _ _ _ _ _ _ _) HAP.out (below_far7 F2.out (show w.heap.size ≤ g2 by omega) _ _ _ _ _ _ _)
end Go.Proofs.YtokklkmibjpjnaaGreat
namespace Go.Proofs.YtokklkmibjpjnaaGreat
set_option linter.unusedSimpArgs false
set_option linter.unusedVariables false
attribute [local go_sem] n_lt2 n_lt3 n_lt4 n_le2 n_le3
open Go.RowKit
attribute [local go_sem] Ext.cell Ext.frozen
theorem effE_len {l0 l1 l2 : Int} {pl : List Pr} {ql : List Jb} {ex et ec es ek ea eb eg eh : Int} (hp : pl.length ≤ 1000) (hq : ql.length ≤ 1000) : (effE l0 l1 l2 pl ql ex et ec es ek ea eb eg eh).1.p.length ≤ 1000 ∧ (effE l0 l1 l2 pl ql ex et ec es ek ea eb eg eh).1.q.length ≤ 1000 := by
  have h1 := putR_len pl ea eb
  have h2 := cutR_len pl ea
  have h3 := addR_len ql ⟨ea, eb, eg, eh, 0⟩
  have h4 := firedR_len ql (jobAtV ql ea).1.i ex
  have h5 := putR_len pl (jobAtV ql ea).1.k (jobAtV ql ea).1.v
  unfold effE
  repeat' split
  all_goals (simp only; omega)
/-- What Applied hands back. -/
def appR (i0 t0 l0 l1 l2 : Int) (pl : List Pr) (ql : List Jb) (ex et ec es ek ea eb eg eh : Int) : (Int × Int × Ef) × Bool :=
  if stateB i0 t0 l0 l1 l2 pl ql = true then (if nextB i0 t0 ex et ec es ek ea eb eg eh = true then ((ex, et, appE l0 l1 l2 pl ql ex et ec es ek ea eb eg eh), true) else ((i0, t0, ⟨pl, ql, l0, l1, l2⟩), false)) else ((0, 0, ⟨[], [], 0, 0, 0⟩), false)
def AppIs (i0 t0 l0 l1 l2 : Int) (pl : List Pr) (ql : List Jb) (ex et ec es ek ea eb eg eh : Int) (ri rt rh re ru : Int) (rp : List Pr) (rq : List Jb) (rn rm : Nat) (rb : Bool) : Prop := appR i0 t0 l0 l1 l2 pl ql ex et ec es ek ea eb eg eh = ((ri, rt, ⟨rp, rq, rh, re, ru⟩), rb) ∧ rp.length = rn ∧ rq.length = rm
theorem applied_g (A : Option Addr) (n c : Nat) (B : Option Addr) (m d : Nat) (i0 t0 l0 l1 l2 : Int) (pl : List Pr) (ql : List Jb) (ex et ec es ek ea eb eg eh : Int) (w : World) (hP : Sl w 2 A n (PR pl)) (hQ : Sl w 5 B m (JB ql)) (hl : pl.length = n) (hr : ql.length = m) (hn : n ≤ 1000) (hm : m ≤ 1000) (hA : A = none → n = 0 ∧ c = 0) (hB : B = none → m = 0 ∧ d = 0) (hk : ek = 1 ∨ ek = 2 ∨ ek = 3 ∨ ek = 4 ∨ ek = 5) (p2 : List Pr) (q2 : List Jb) (h2 e2 u2 : Int) (n2 m2 : Nat) (x : Int) (hE : Hid (appE l0 l1 l2 pl ql ex et ec es ek ea eb eg eh = ⟨p2, q2, h2, e2, u2⟩)) (hn2 : Hid (p2.length = n2)) (hm2 : Hid (q2.length = m2)) (hx : Hid (appI l0 l1 l2 pl ql ex et ec es ek ea eb eg eh = x)) :
    Calls Tryz.prog 43 #[.agg #[.int .i64 i0, .int .i64 t0, .slice A n c, .slice B m d, .int .i64 l0, .int .i64 l1, .int .i64 l2], .agg #[.int .i64 ex, .int .i64 et, .int .i64 ec, .int .i64 es, .int .i64 ek, .int .i64 ea, .int .i64 eb, .int .i64 eg, .int .i64 eh]] w (RetStateV w ex et h2 e2 u2 n2 (PR p2) m2 (JB q2) (.int .i64 x)) := by
  have hE := hE.out
  have hn2 := hn2.out
  have hm2 := hm2.out
  have hx := hx.out
  have hlen := effE_len (l0 := l0) (l1 := l1) (l2 := l2) (pl := pl) (ql := ql) (ex := ex) (et := et) (ec := ec) (es := es) (ek := ek) (ea := ea) (eb := eb) (eg := eg) (eh := eh) (by omega) (by omega)
  unfold appE at hE
  unfold appI at hx
  generalize hr0 : effE l0 l1 l2 pl ql ex et ec es ek ea eb eg eh = r at hE hx hlen
  obtain ⟨⟨p3, q3, h3, e3, u3⟩, ok⟩ := r
  cases ok with
  | true =>
    rw [if_pos rfl] at hE hx
    injection hE with z1 z2 z3 z4 z5
    subst z1 z2 z3 z4 z5 hn2 hm2 hx
    rcases hk with rfl | rfl | rfl | rfl | rfl
    · exact applied_yes1 A n c B m d i0 t0 l0 l1 l2 pl ql ex et ec es ea eb eg eh w hP hQ hl hr hn hm hA hB p3 q3 h3 e3 u3 hlen.1 hlen.2 (Lib.hid hr0)
    · exact applied_yes2 A n c B m d i0 t0 l0 l1 l2 pl ql ex et ec es ea eb eg eh w hP hQ hl hr hn hm hA hB p3 q3 h3 e3 u3 hlen.1 hlen.2 (Lib.hid hr0)
    · exact applied_yes3 A n c B m d i0 t0 l0 l1 l2 pl ql ex et ec es ea eb eg eh w hP hQ hl hr hn hm hA hB p3 q3 h3 e3 u3 hlen.1 hlen.2 (Lib.hid hr0)
    · exact applied_yes4 A n c B m d i0 t0 l0 l1 l2 pl ql ex et ec es ea eb eg eh w hP hQ hl hr hn hm hA hB p3 q3 h3 e3 u3 hlen.1 hlen.2 (Lib.hid hr0)
    · exact applied_yes5 A n c B m d i0 t0 l0 l1 l2 pl ql ex et ec es ea eb eg eh w hP hQ hl hr hn hm hA hB p3 q3 h3 e3 u3 hlen.1 hlen.2 (Lib.hid hr0)
  | false =>
    rw [if_neg (by simp)] at hE hx
    injection hE with z1 z2 z3 z4 z5
    subst z1 z2 z3 z4 z5 hn2 hm2 hx
    rcases hk with rfl | rfl | rfl | rfl | rfl
    · exact applied_no1 A n c B m d i0 t0 l0 l1 l2 pl ql ex et ec es ea eb eg eh w hP hQ hl hr hn hm hA hB p3 q3 h3 e3 u3 (Lib.hid hr0)
    · exact applied_no2 A n c B m d i0 t0 l0 l1 l2 pl ql ex et ec es ea eb eg eh w hP hQ hl hr hn hm hA hB p3 q3 h3 e3 u3 (Lib.hid hr0)
    · exact applied_no3 A n c B m d i0 t0 l0 l1 l2 pl ql ex et ec es ea eb eg eh w hP hQ hl hr hn hm hA hB p3 q3 h3 e3 u3 (Lib.hid hr0)
    · exact applied_no4 A n c B m d i0 t0 l0 l1 l2 pl ql ex et ec es ea eb eg eh w hP hQ hl hr hn hm hA hB p3 q3 h3 e3 u3 (Lib.hid hr0)
    · exact applied_no5 A n c B m d i0 t0 l0 l1 l2 pl ql ex et ec es ea eb eg eh w hP hQ hl hr hn hm hA hB p3 q3 h3 e3 u3 (Lib.hid hr0)
theorem nextInB_both {i0 t0 l0 l1 l2 : Int} {pl : List Pr} {ql : List Jb} {ex et ec es ek ea eb eg eh : Int} (h : nextInB i0 t0 l0 l1 l2 pl ql ex et ec es ek ea eb eg eh = true) : stateB i0 t0 l0 l1 l2 pl ql = true ∧ nextB i0 t0 ex et ec es ek ea eb eg eh = true := by
  unfold nextInB at h
  simpa only [Bool.and_eq_true] using h
theorem nextB_kind {i0 t0 ex et ec es ek ea eb eg eh : Int} (h : nextB i0 t0 ex et ec es ek ea eb eg eh = true) : ek = 1 ∨ ek = 2 ∨ ek = 3 ∨ ek = 4 ∨ ek = 5 := opB_kind (nextB_parts h).2.2.2.2.1
set_option maxRecDepth 100000 in
set_option maxHeartbeats 2000000 in
theorem EffectOf_any (A : Option Addr) (n c : Nat) (B : Option Addr) (m d : Nat) (i0 t0 l0 l1 l2 : Int) (pl : List Pr) (ql : List Jb) (ex et ec es ek ea eb eg eh : Int) (w : World) (hP : Sl w 2 A n (PR pl)) (hQ : Sl w 5 B m (JB ql)) (hl : pl.length = n) (hr : ql.length = m) (hn : n ≤ maxLen) (hm : m ≤ maxLen) (hA : A = none → n = 0 ∧ c = 0) (hB : B = none → m = 0 ∧ d = 0) (x : Int) (hx : effI i0 t0 l0 l1 l2 pl ql ex et ec es ek ea eb eg eh = x) :
    Calls Tryz.prog 15 #[.agg #[.int .i64 i0, .int .i64 t0, .slice A n c, .slice B m d, .int .i64 l0, .int .i64 l1, .int .i64 l2], .agg #[.int .i64 ex, .int .i64 et, .int .i64 ec, .int .i64 es, .int .i64 ek, .int .i64 ea, .int .i64 eb, .int .i64 eg, .int .i64 eh]] w fun e' w' => e' = .returned (.int .i64 x) ∧ Below w.heap.size w w' := by
  have HP := Lib.hid hP
  have HQ := Lib.hid hQ
  have HA := Lib.hid hA
  have HB := Lib.hid hB
  have hL := Lib.hid hl
  have hR := Lib.hid hr
  clear hP hQ hA hB hl hr
  have hXX := Lib.hid hx
  clear hx
  go_enter Tryz.func15, Tryz.ntmps15
  go_wp2_with fail
  refine calls_named ?_
  rintro v0 hv0
  have f0 : Below w.heap.size w v0 := by rw [hv0]; (repeat' (first | (with_reducible exact Below.refl _ _) | (with_reducible assumption) | (with_reducible refine Below.alloc ?_ ?_ _) | (with_reducible refine Below.drew ?_) | (with_reducible refine Below.setCell ?_ ?_ _) | (with_reducible refine bstep (by assumption) ?_ ?_) | (with_reducible exact Nat.le_refl _) | omega | (simp [*]; done) | (simp [*]; omega)))
  have z0 : w.heap.size + 2 ≤ v0.heap.size := by rw [hv0]; simp [size_set]
  have HP_0 := Lib.hid (HP.out.below f0)
  have HP_lt := Lib.hid (fun hn => HP.out.lt hn)
  have HQ_0 := Lib.hid (HQ.out.below f0)
  have HQ_lt := Lib.hid (fun hn => HQ.out.lt hn)
  have Ha_0 : Hid (Blk v0 w.heap.size 37 #[.int .i64 i0, .int .i64 t0, .slice A n c, .slice B m d, .int .i64 l0, .int .i64 l1, .int .i64 l2]) := by rw [hv0]; exact (Blk.new_at _ _ _ _ (by simp)).alloc _
  have Hb_0 : Hid (Blk v0 (w.heap.size + 1) 43 #[.int .i64 ex, .int .i64 et, .int .i64 ec, .int .i64 es, .int .i64 ek, .int .i64 ea, .int .i64 eb, .int .i64 eg, .int .i64 eh]) := by rw [hv0]; exact Blk.new_at _ _ _ _ (by simp)
  clear hv0
  generalize hg1 : w.heap.size + 1 = g1 at *
  have lg1 : w.heap.size < g1 := by omega
  have lgz : g1 < v0.heap.size := by omega
  have nq1x0 : ¬ g1 = w.heap.size := by omega
  have nq0x1 : ¬ w.heap.size = g1 := by omega
  clear hg1
  have lt_a := Ha_0.out.lt
  obtain ⟨r_a0, r_a1, r_a2, r_a3, r_a4, r_a5, r_a6⟩ := bc7 Ha_0.out
  have lt_b := Hb_0.out.lt
  obtain ⟨r_b0, r_b1, r_b2, r_b3, r_b4, r_b5, r_b6, r_b7, r_b8⟩ := bc9 Hb_0.out
  have cc := NextIn_any A n c B m d i0 t0 l0 l1 l2 pl ql ex et ec es ek ea eb eg eh v0 HP_0.out HQ_0.out hL.out hR.out hn hm
  cases q1 : nextInB i0 t0 l0 l1 l2 pl ql ex et ec es ek ea eb eg eh with
  | false =>
    rw [q1] at cc
    have HV := Lib.hid (show x = -1 by rw [← hXX.out]; unfold effI; rw [if_neg (by rw [q1]; decide)])
    clear q1
    refine (cc).mono ?_
    rintro e v1 ⟨rfl, b1⟩
    have f1 := bthen f0 b1
    have z1 := b1.size
    have HP_1 := Lib.hid (HP_0.out.below b1)
    have HQ_1 := Lib.hid (HQ_0.out.below b1)
    have Ha_1 := Lib.hid (Ha_0.out.below b1)
    have Hb_1 := Lib.hid (Hb_0.out.below b1)
    clear lt_a r_a0 r_a1 r_a2 r_a3 r_a4 r_a5 r_a6 lt_b r_b0 r_b1 r_b2 r_b3 r_b4 r_b5 r_b6 r_b7 r_b8
    clear HP_0 HQ_0 Ha_0 Hb_0
    have lt_a := Ha_1.out.lt
    obtain ⟨r_a0, r_a1, r_a2, r_a3, r_a4, r_a5, r_a6⟩ := bc7 Ha_1.out
    have lt_b := Hb_1.out.lt
    obtain ⟨r_b0, r_b1, r_b2, r_b3, r_b4, r_b5, r_b6, r_b7, r_b8⟩ := bc9 Hb_1.out
    go_wp21
    go_ret
    exact ⟨ret_int HV.out.symm, f1⟩
  | true =>
    rw [q1] at cc
    have HV := Lib.hid (show appI l0 l1 l2 pl ql ex et ec es ek ea eb eg eh = x by rw [← hXX.out]; unfold effI; rw [if_pos q1])
    obtain ⟨hs, hnx⟩ := nextInB_both q1
    have hk := nextB_kind hnx
    obtain ⟨hn10, hm8⟩ := stateB_lens hs
    rw [hL.out] at hn10
    rw [hR.out] at hm8
    clear q1 hs hnx
    refine (cc).mono ?_
    rintro e v1 ⟨rfl, b1⟩
    have f1 := bthen f0 b1
    have z1 := b1.size
    have HP_1 := Lib.hid (HP_0.out.below b1)
    have HQ_1 := Lib.hid (HQ_0.out.below b1)
    have Ha_1 := Lib.hid (Ha_0.out.below b1)
    have Hb_1 := Lib.hid (Hb_0.out.below b1)
    clear lt_a r_a0 r_a1 r_a2 r_a3 r_a4 r_a5 r_a6 lt_b r_b0 r_b1 r_b2 r_b3 r_b4 r_b5 r_b6 r_b7 r_b8
    clear HP_0 HQ_0 Ha_0 Hb_0
    clear cc
    have lt_a := Ha_1.out.lt
    obtain ⟨r_a0, r_a1, r_a2, r_a3, r_a4, r_a5, r_a6⟩ := bc7 Ha_1.out
    have lt_b := Hb_1.out.lt
    obtain ⟨r_b0, r_b1, r_b2, r_b3, r_b4, r_b5, r_b6, r_b7, r_b8⟩ := bc9 Hb_1.out
    obtain ⟨⟨p2, q2, h2, e2, u2⟩, hE⟩ : ∃ R, appE l0 l1 l2 pl ql ex et ec es ek ea eb eg eh = R := ⟨_, rfl⟩
    have cc := applied_g A n c B m d i0 t0 l0 l1 l2 pl ql ex et ec es ek ea eb eg eh v1 HP_1.out HQ_1.out hL.out hR.out (by omega) (by omega) HA.out HB.out hk p2 q2 h2 e2 u2 _ _ x (Lib.hid hE) (Lib.hid rfl) (Lib.hid rfl) HV
    clear hk hE
    generalize p2.length = n2 at cc
    generalize q2.length = m2 at cc
    go_wp2_with fail
    refine cc.mono ?_
    rintro e v2 ⟨A5, c5, B5, d5, rfl, -, -, -, b2⟩
    clear cc
    have f2 := bthen f1 b2
    have z2 := b2.size
    have HP_2 := Lib.hid (HP_1.out.below b2)
    have HQ_2 := Lib.hid (HQ_1.out.below b2)
    have Ha_2 := Lib.hid (Ha_1.out.below b2)
    have Hb_2 := Lib.hid (Hb_1.out.below b2)
    clear lt_a r_a0 r_a1 r_a2 r_a3 r_a4 r_a5 r_a6 lt_b r_b0 r_b1 r_b2 r_b3 r_b4 r_b5 r_b6 r_b7 r_b8
    clear HP_1 HQ_1 Ha_1 Hb_1
    have lt_a := Ha_2.out.lt
    obtain ⟨r_a0, r_a1, r_a2, r_a3, r_a4, r_a5, r_a6⟩ := bc7 Ha_2.out
    have lt_b := Hb_2.out.lt
    obtain ⟨r_b0, r_b1, r_b2, r_b3, r_b4, r_b5, r_b6, r_b7, r_b8⟩ := bc9 Hb_2.out
    go_wp21
    go_ret
    exact ⟨rfl, (show Below w.heap.size w v2 from f2).alloc f2.size _⟩
set_option maxRecDepth 100000 in
set_option maxHeartbeats 4000000 in
theorem Applied_g (A : Option Addr) (n c : Nat) (B : Option Addr) (m d : Nat) (i0 t0 l0 l1 l2 : Int) (pl : List Pr) (ql : List Jb) (ex et ec es ek ea eb eg eh : Int) (w : World) (hP : Sl w 2 A n (PR pl)) (hQ : Sl w 5 B m (JB ql)) (hl : pl.length = n) (hr : ql.length = m) (hn : n ≤ maxLen) (hm : m ≤ maxLen) (hA : A = none → n = 0 ∧ c = 0) (hB : B = none → m = 0 ∧ d = 0) (ri rt rh re ru : Int) (rp : List Pr) (rq : List Jb) (rn rm : Nat) (rb : Bool) (hres : AppIs i0 t0 l0 l1 l2 pl ql ex et ec es ek ea eb eg eh ri rt rh re ru rp rq rn rm rb) :
    Calls Tryz.prog 10 #[.agg #[.int .i64 i0, .int .i64 t0, .slice A n c, .slice B m d, .int .i64 l0, .int .i64 l1, .int .i64 l2], .agg #[.int .i64 ex, .int .i64 et, .int .i64 ec, .int .i64 es, .int .i64 ek, .int .i64 ea, .int .i64 eb, .int .i64 eg, .int .i64 eh]] w (RetStateV w ri rt rh re ru rn (PR rp) rm (JB rq) (.bool rb)) := by
  have HP := Lib.hid hP
  have HQ := Lib.hid hQ
  have HA := Lib.hid hA
  have HB := Lib.hid hB
  have hL := Lib.hid hl
  have hR := Lib.hid hr
  clear hP hQ hA hB hl hr
  have HR := Lib.hid hres
  clear hres
  go_enter Tryz.func10, Tryz.ntmps10
  go_wp2_with fail
  refine calls_named ?_
  rintro v0 hv0
  have f0 : Below w.heap.size w v0 := by rw [hv0]; (repeat' (first | (with_reducible exact Below.refl _ _) | (with_reducible assumption) | (with_reducible refine Below.alloc ?_ ?_ _) | (with_reducible refine Below.drew ?_) | (with_reducible refine Below.setCell ?_ ?_ _) | (with_reducible refine bstep (by assumption) ?_ ?_) | (with_reducible exact Nat.le_refl _) | omega | (simp [*]; done) | (simp [*]; omega)))
  have z0 : w.heap.size + 3 ≤ v0.heap.size := by rw [hv0]; simp [size_set]
  have HP_0 := Lib.hid (HP.out.below f0)
  have HP_lt := Lib.hid (fun hn => HP.out.lt hn)
  have HQ_0 := Lib.hid (HQ.out.below f0)
  have HQ_lt := Lib.hid (fun hn => HQ.out.lt hn)
  have Ha_0 : Hid (Blk v0 w.heap.size 37 #[.int .i64 i0, .int .i64 t0, .slice A n c, .slice B m d, .int .i64 l0, .int .i64 l1, .int .i64 l2]) := by rw [hv0]; exact ((Blk.new_at _ _ _ _ (by simp)).alloc _).alloc _
  have Hb_0 : Hid (Blk v0 (w.heap.size + 1) 43 #[.int .i64 ex, .int .i64 et, .int .i64 ec, .int .i64 es, .int .i64 ek, .int .i64 ea, .int .i64 eb, .int .i64 eg, .int .i64 eh]) := by rw [hv0]; exact (Blk.new_at _ _ _ _ (by simp)).alloc _
  have Hr_0 : Hid (Blk v0 (w.heap.size + 1 + 1) 37 #[.int .i64 0, .int .i64 0, .slice none 0 0, .slice none 0 0, .int .i64 0, .int .i64 0, .int .i64 0]) := by rw [hv0]; exact Blk.new_at _ _ _ _ (by simp)
  clear hv0
  generalize hg2 : w.heap.size + 1 + 1 = g2 at *
  generalize hg1 : w.heap.size + 1 = g1 at *
  have lg1 : w.heap.size < g1 := by omega
  have lg2 : g1 < g2 := by omega
  have lgz : g2 < v0.heap.size := by omega
  have nq1x0 : ¬ g1 = w.heap.size := by omega
  have nq0x1 : ¬ w.heap.size = g1 := by omega
  have nq2x0 : ¬ g2 = w.heap.size := by omega
  have nq0x2 : ¬ w.heap.size = g2 := by omega
  have nq2x1 : ¬ g2 = g1 := by omega
  have nq1x2 : ¬ g1 = g2 := by omega
  clear hg1 hg2
  have lt_a := Ha_0.out.lt
  obtain ⟨r_a0, r_a1, r_a2, r_a3, r_a4, r_a5, r_a6⟩ := bc7 Ha_0.out
  have lt_b := Hb_0.out.lt
  obtain ⟨r_b0, r_b1, r_b2, r_b3, r_b4, r_b5, r_b6, r_b7, r_b8⟩ := bc9 Hb_0.out
  have lt_r := Hr_0.out.lt
  obtain ⟨r_r0, r_r1, r_r2, r_r3, r_r4, r_r5, r_r6⟩ := bc7 Hr_0.out
  obtain ⟨z_r0, z_r1, z_r2, z_r3, z_r4, z_r5, z_r6⟩ := bf7 Hr_0.out
  have cc := stateOk_any A n c B m d i0 t0 l0 l1 l2 pl ql v0 HP_0.out HQ_0.out hL.out hR.out hn hm
  cases q1 : stateB i0 t0 l0 l1 l2 pl ql with
  | false =>
    rw [q1] at cc
    have hh := HR.out
    unfold AppIs appR at hh
    rw [if_neg (by rw [q1]; decide)] at hh
    obtain ⟨h1, h2, h3⟩ := hh
    injection h1 with h1 h4
    injection h1 with h1 h5
    injection h5 with h5 h6
    injection h6 with h6 h7 h8 h9 h10
    subst h1 h5 h6 h7 h8 h9 h10 h4 h2 h3
    clear q1 HR
    refine (cc).mono ?_
    rintro e v1 ⟨rfl, b1⟩
    have f1 := bthen f0 b1
    have z1 := b1.size
    have HP_1 := Lib.hid (HP_0.out.below b1)
    have HQ_1 := Lib.hid (HQ_0.out.below b1)
    have Ha_1 := Lib.hid (Ha_0.out.below b1)
    have Hb_1 := Lib.hid (Hb_0.out.below b1)
    have Hr_1 := Lib.hid (Hr_0.out.below b1)
    clear lt_a r_a0 r_a1 r_a2 r_a3 r_a4 r_a5 r_a6 lt_b r_b0 r_b1 r_b2 r_b3 r_b4 r_b5 r_b6 r_b7 r_b8 lt_r r_r0 r_r1 r_r2 r_r3 r_r4 r_r5 r_r6 z_r0 z_r1 z_r2 z_r3 z_r4 z_r5 z_r6
    clear HP_0 HQ_0 Ha_0 Hb_0 Hr_0
    have lt_a := Ha_1.out.lt
    obtain ⟨r_a0, r_a1, r_a2, r_a3, r_a4, r_a5, r_a6⟩ := bc7 Ha_1.out
    have lt_b := Hb_1.out.lt
    obtain ⟨r_b0, r_b1, r_b2, r_b3, r_b4, r_b5, r_b6, r_b7, r_b8⟩ := bc9 Hb_1.out
    have lt_r := Hr_1.out.lt
    obtain ⟨r_r0, r_r1, r_r2, r_r3, r_r4, r_r5, r_r6⟩ := bc7 Hr_1.out
    obtain ⟨z_r0, z_r1, z_r2, z_r3, z_r4, z_r5, z_r6⟩ := bf7 Hr_1.out
    go_wp21
    refine bodyPost_ret (v := .tuple #[.agg #[.int .i64 0, .int .i64 0, .slice none 0 0, .slice none 0 0, .int .i64 0, .int .i64 0, .int .i64 0], .bool false]) (by simp [results, Tryz.results10, go_sem, *]) rfl ?_
    exact RetStateV.mk rfl rfl (Row.nil _ _ _ _) (Row.nil _ _ _ _) (fun a b ha => by cases ha) (by (repeat' (first | (with_reducible exact Below.refl _ _) | (with_reducible assumption) | (with_reducible refine Below.alloc ?_ ?_ _) | (with_reducible refine Below.drew ?_) | (with_reducible refine Below.setCell ?_ ?_ _) | (with_reducible refine bstep (by assumption) ?_ ?_) | (with_reducible exact Nat.le_refl _) | omega | (simp [*]; done) | (simp [*]; omega))))
  | true =>
    rw [q1] at cc
    have HS := Lib.hid q1
    have hle := stateB_lens q1
    rw [hL.out, hR.out] at hle
    obtain ⟨hn10, hm8⟩ := hle
    have hi0 := stateB_i q1
    clear q1
    refine (cc).mono ?_
    rintro e v1 ⟨rfl, b1⟩
    have f1 := bthen f0 b1
    have z1 := b1.size
    have HP_1 := Lib.hid (HP_0.out.below b1)
    have HQ_1 := Lib.hid (HQ_0.out.below b1)
    have Ha_1 := Lib.hid (Ha_0.out.below b1)
    have Hb_1 := Lib.hid (Hb_0.out.below b1)
    have Hr_1 := Lib.hid (Hr_0.out.below b1)
    clear lt_a r_a0 r_a1 r_a2 r_a3 r_a4 r_a5 r_a6 lt_b r_b0 r_b1 r_b2 r_b3 r_b4 r_b5 r_b6 r_b7 r_b8 lt_r r_r0 r_r1 r_r2 r_r3 r_r4 r_r5 r_r6 z_r0 z_r1 z_r2 z_r3 z_r4 z_r5 z_r6
    clear HP_0 HQ_0 Ha_0 Hb_0 Hr_0
    clear cc
    have lt_a := Ha_1.out.lt
    obtain ⟨r_a0, r_a1, r_a2, r_a3, r_a4, r_a5, r_a6⟩ := bc7 Ha_1.out
    have lt_b := Hb_1.out.lt
    obtain ⟨r_b0, r_b1, r_b2, r_b3, r_b4, r_b5, r_b6, r_b7, r_b8⟩ := bc9 Hb_1.out
    have lt_r := Hr_1.out.lt
    obtain ⟨r_r0, r_r1, r_r2, r_r3, r_r4, r_r5, r_r6⟩ := bc7 Hr_1.out
    obtain ⟨z_r0, z_r1, z_r2, z_r3, z_r4, z_r5, z_r6⟩ := bf7 Hr_1.out
    have cc := nextIn_any A n c B m d i0 t0 l0 l1 l2 ex et ec es ek ea eb eg eh v1 hi0.1 hi0.2
    cases q2 : nextB i0 t0 ex et ec es ek ea eb eg eh with
    | false =>
      rw [q2] at cc
      have hh := HR.out
      unfold AppIs appR at hh
      rw [if_pos HS.out, if_neg (by rw [q2]; decide)] at hh
      obtain ⟨h1, h2, h3⟩ := hh
      injection h1 with h1 h4
      injection h1 with h1 h5
      injection h5 with h5 h6
      injection h6 with h6 h7 h8 h9 h10
      subst h1 h5 h6 h7 h8 h9 h10 h4 h2 h3
      clear q2 HR HS
      go_wp2_with fail
      refine (cc).mono ?_
      rintro e v2 ⟨rfl, b2⟩
      have f2 := bthen f1 b2
      have z2 := b2.size
      have HP_2 := Lib.hid (HP_1.out.below b2)
      have HQ_2 := Lib.hid (HQ_1.out.below b2)
      have Ha_2 := Lib.hid (Ha_1.out.below b2)
      have Hb_2 := Lib.hid (Hb_1.out.below b2)
      have Hr_2 := Lib.hid (Hr_1.out.below b2)
      clear lt_a r_a0 r_a1 r_a2 r_a3 r_a4 r_a5 r_a6 lt_b r_b0 r_b1 r_b2 r_b3 r_b4 r_b5 r_b6 r_b7 r_b8 lt_r r_r0 r_r1 r_r2 r_r3 r_r4 r_r5 r_r6 z_r0 z_r1 z_r2 z_r3 z_r4 z_r5 z_r6
      clear HP_1 HQ_1 Ha_1 Hb_1 Hr_1
      clear cc
      have lt_a := Ha_2.out.lt
      obtain ⟨r_a0, r_a1, r_a2, r_a3, r_a4, r_a5, r_a6⟩ := bc7 Ha_2.out
      have lt_b := Hb_2.out.lt
      obtain ⟨r_b0, r_b1, r_b2, r_b3, r_b4, r_b5, r_b6, r_b7, r_b8⟩ := bc9 Hb_2.out
      have lt_r := Hr_2.out.lt
      obtain ⟨r_r0, r_r1, r_r2, r_r3, r_r4, r_r5, r_r6⟩ := bc7 Hr_2.out
      obtain ⟨z_r0, z_r1, z_r2, z_r3, z_r4, z_r5, z_r6⟩ := bf7 Hr_2.out
      go_wp2_with fail
      refine (copyState_any A n c B m d i0 t0 l0 l1 l2 pl ql _ HP_2.out HQ_2.out hL.out hR.out (by omega) (by omega) HA.out HB.out).mono ?_
      rintro e v3 ⟨A5, c5, B5, d5, rfl, R5, R6, hap, b3⟩
      have HAP := Lib.hid hap
      clear hap
      have f3 := bthen f2 b3
      have z3 := b3.size
      have HP_3 := Lib.hid (HP_2.out.below b3)
      have HQ_3 := Lib.hid (HQ_2.out.below b3)
      have Ha_3 := Lib.hid (Ha_2.out.below b3)
      have Hb_3 := Lib.hid (Hb_2.out.below b3)
      have Hr_3 := Lib.hid (Hr_2.out.below b3)
      clear lt_a r_a0 r_a1 r_a2 r_a3 r_a4 r_a5 r_a6 lt_b r_b0 r_b1 r_b2 r_b3 r_b4 r_b5 r_b6 r_b7 r_b8 lt_r r_r0 r_r1 r_r2 r_r3 r_r4 r_r5 r_r6 z_r0 z_r1 z_r2 z_r3 z_r4 z_r5 z_r6
      clear HP_2 HQ_2 Ha_2 Hb_2 Hr_2
      have Hx_3 := Lib.hid R5
      clear R5
      have Hy_3 := Lib.hid R6
      clear R6
      have lt_a := Ha_3.out.lt
      obtain ⟨r_a0, r_a1, r_a2, r_a3, r_a4, r_a5, r_a6⟩ := bc7 Ha_3.out
      have lt_b := Hb_3.out.lt
      obtain ⟨r_b0, r_b1, r_b2, r_b3, r_b4, r_b5, r_b6, r_b7, r_b8⟩ := bc9 Hb_3.out
      have lt_r := Hr_3.out.lt
      obtain ⟨r_r0, r_r1, r_r2, r_r3, r_r4, r_r5, r_r6⟩ := bc7 Hr_3.out
      obtain ⟨z_r0, z_r1, z_r2, z_r3, z_r4, z_r5, z_r6⟩ := bf7 Hr_3.out
      go_wp21
      refine bodyPost_ret (v := .tuple #[.agg #[.int .i64 i0, .int .i64 t0, .slice A5 n c5, .slice B5 m d5, .int .i64 l0, .int .i64 l1, .int .i64 l2], .bool false]) (by simp [results, Tryz.results10, go_sem, *]) rfl ?_
      have nx : ∀ a, A5 = some a → a.block ≠ g2 := fun a ha => by have := Hx_3.out.ge a ha; omega
      have ny : ∀ a, B5 = some a → a.block ≠ g2 := fun a ha => by have := Hy_3.out.ge a ha; omega
      exact RetStateV.mk hL.out hR.out (row_far7 (Hx_3.out.mono (by omega)) nx _ _ _ _ _ _ _) (row_far7 (Hy_3.out.mono (by omega)) ny _ _ _ _ _ _ _) HAP.out (by (repeat' (first | (with_reducible exact Below.refl _ _) | (with_reducible assumption) | (with_reducible refine Below.alloc ?_ ?_ _) | (with_reducible refine Below.drew ?_) | (with_reducible refine Below.setCell ?_ ?_ _) | (with_reducible refine bstep (by assumption) ?_ ?_) | (with_reducible exact Nat.le_refl _) | omega | (simp [*]; done) | (simp [*]; omega))))
    | true =>
      rw [q2] at cc
      have hh := HR.out
      unfold AppIs appR at hh
      rw [if_pos HS.out, if_pos q2] at hh
      obtain ⟨h1, h2, h3⟩ := hh
      injection h1 with h1 h4
      injection h1 with h1 h5
      injection h5 with h5 h6
      subst h1 h5 h4
      have HE := Lib.hid h6
      have HN := Lib.hid h2
      have HM := Lib.hid h3
      have hk := nextB_kind q2
      clear q2 HR HS h6 h2 h3
      go_wp2_with fail
      refine (cc).mono ?_
      rintro e v2 ⟨rfl, b2⟩
      have f2 := bthen f1 b2
      have z2 := b2.size
      have HP_2 := Lib.hid (HP_1.out.below b2)
      have HQ_2 := Lib.hid (HQ_1.out.below b2)
      have Ha_2 := Lib.hid (Ha_1.out.below b2)
      have Hb_2 := Lib.hid (Hb_1.out.below b2)
      have Hr_2 := Lib.hid (Hr_1.out.below b2)
      clear lt_a r_a0 r_a1 r_a2 r_a3 r_a4 r_a5 r_a6 lt_b r_b0 r_b1 r_b2 r_b3 r_b4 r_b5 r_b6 r_b7 r_b8 lt_r r_r0 r_r1 r_r2 r_r3 r_r4 r_r5 r_r6 z_r0 z_r1 z_r2 z_r3 z_r4 z_r5 z_r6
      clear HP_1 HQ_1 Ha_1 Hb_1 Hr_1
      clear cc
      have lt_a := Ha_2.out.lt
      obtain ⟨r_a0, r_a1, r_a2, r_a3, r_a4, r_a5, r_a6⟩ := bc7 Ha_2.out
      have lt_b := Hb_2.out.lt
      obtain ⟨r_b0, r_b1, r_b2, r_b3, r_b4, r_b5, r_b6, r_b7, r_b8⟩ := bc9 Hb_2.out
      have lt_r := Hr_2.out.lt
      obtain ⟨r_r0, r_r1, r_r2, r_r3, r_r4, r_r5, r_r6⟩ := bc7 Hr_2.out
      obtain ⟨z_r0, z_r1, z_r2, z_r3, z_r4, z_r5, z_r6⟩ := bf7 Hr_2.out
      obtain ⟨x, hx⟩ : ∃ x, appI l0 l1 l2 pl ql ex et ec es ek ea eb eg eh = x := ⟨_, rfl⟩
      have cc := applied_g A n c B m d i0 t0 l0 l1 l2 pl ql ex et ec es ek ea eb eg eh v2 HP_2.out HQ_2.out hL.out hR.out (by omega) (by omega) HA.out HB.out hk rp rq rh re ru rn rm x HE HN HM (Lib.hid hx)
      clear hk hx
      go_wp2_with fail
      refine cc.mono ?_
      rintro e v3 ⟨A5, c5, B5, d5, rfl, R5, R6, hap, b3⟩
      clear cc
      have HAP := Lib.hid hap
      clear hap
      have f3 := bthen f2 b3
      have z3 := b3.size
      have HP_3 := Lib.hid (HP_2.out.below b3)
      have HQ_3 := Lib.hid (HQ_2.out.below b3)
      have Ha_3 := Lib.hid (Ha_2.out.below b3)
      have Hb_3 := Lib.hid (Hb_2.out.below b3)
      have Hr_3 := Lib.hid (Hr_2.out.below b3)
      clear lt_a r_a0 r_a1 r_a2 r_a3 r_a4 r_a5 r_a6 lt_b r_b0 r_b1 r_b2 r_b3 r_b4 r_b5 r_b6 r_b7 r_b8 lt_r r_r0 r_r1 r_r2 r_r3 r_r4 r_r5 r_r6 z_r0 z_r1 z_r2 z_r3 z_r4 z_r5 z_r6
      clear HP_2 HQ_2 Ha_2 Hb_2 Hr_2
      have Hx_3 := Lib.hid R5
      clear R5
      have Hy_3 := Lib.hid R6
      clear R6
      have lt_a := Ha_3.out.lt
      obtain ⟨r_a0, r_a1, r_a2, r_a3, r_a4, r_a5, r_a6⟩ := bc7 Ha_3.out
      have lt_b := Hb_3.out.lt
      obtain ⟨r_b0, r_b1, r_b2, r_b3, r_b4, r_b5, r_b6, r_b7, r_b8⟩ := bc9 Hb_3.out
      have lt_r := Hr_3.out.lt
      obtain ⟨r_r0, r_r1, r_r2, r_r3, r_r4, r_r5, r_r6⟩ := bc7 Hr_3.out
      obtain ⟨z_r0, z_r1, z_r2, z_r3, z_r4, z_r5, z_r6⟩ := bf7 Hr_3.out
      go_upto_region 6 with fail
      obtain ⟨v4, hv4⟩ : ∃ x : World, x = (v3.alloc (.cells #[.int .i64 ex, .int .i64 et, .slice A5 rn c5, .slice B5 rm d5, .int .i64 rh, .int .i64 re, .int .i64 ru] 37)) := ⟨_, rfl⟩
      rw [← hv4]
      have f4 : Below w.heap.size w v4 := by rw [hv4]; (repeat' (first | (with_reducible exact Below.refl _ _) | (with_reducible assumption) | (with_reducible refine Below.alloc ?_ ?_ _) | (with_reducible refine Below.drew ?_) | (with_reducible refine Below.setCell ?_ ?_ _) | (with_reducible refine bstep (by assumption) ?_ ?_) | (with_reducible exact Nat.le_refl _) | omega | (simp [*]; done) | (simp [*]; omega)))
      have z4 : v3.heap.size + 1 ≤ v4.heap.size := by rw [hv4]; simp [size_set]
      have HP_4 : Hid (Sl v4 2 A n (PR pl)) := by rw [hv4]; exact (HP_3.out).alloc _
      have HQ_4 : Hid (Sl v4 5 B m (JB ql)) := by rw [hv4]; exact (HQ_3.out).alloc _
      have Ha_4 : Hid (Blk v4 w.heap.size 37 #[.int .i64 i0, .int .i64 t0, .slice A n c, .slice B m d, .int .i64 l0, .int .i64 l1, .int .i64 l2]) := by rw [hv4]; exact (Ha_3.out).alloc _
      have Hb_4 : Hid (Blk v4 g1 43 #[.int .i64 ex, .int .i64 et, .int .i64 ec, .int .i64 es, .int .i64 ek, .int .i64 ea, .int .i64 eb, .int .i64 eg, .int .i64 eh]) := by rw [hv4]; exact (Hb_3.out).alloc _
      have Hr_4 : Hid (Blk v4 g2 37 #[.int .i64 0, .int .i64 0, .slice none 0 0, .slice none 0 0, .int .i64 0, .int .i64 0, .int .i64 0]) := by rw [hv4]; exact (Hr_3.out).alloc _
      have Hx_4 : Hid (Row v4 v2.heap.size 106 2 A5 rn c5 (PR rp)) := by rw [hv4]; exact (Hx_3.out).alloc _
      have Hy_4 : Hid (Row v4 v2.heap.size 71 5 B5 rm d5 (JB rq)) := by rw [hv4]; exact (Hy_3.out).alloc _
      have Hz_4 : Hid (Blk v4 v3.heap.size 37 #[.int .i64 ex, .int .i64 et, .slice A5 rn c5, .slice B5 rm d5, .int .i64 rh, .int .i64 re, .int .i64 ru]) := by rw [hv4]; exact (Blk.new_at _ _ _ _ (by simp [size_set]))
      clear lt_a r_a0 r_a1 r_a2 r_a3 r_a4 r_a5 r_a6 lt_b r_b0 r_b1 r_b2 r_b3 r_b4 r_b5 r_b6 r_b7 r_b8 lt_r r_r0 r_r1 r_r2 r_r3 r_r4 r_r5 r_r6 z_r0 z_r1 z_r2 z_r3 z_r4 z_r5 z_r6
      clear hv4 HP_3 HQ_3 Ha_3 Hb_3 Hr_3 Hx_3 Hy_3
      have lt_a := Ha_4.out.lt
      obtain ⟨r_a0, r_a1, r_a2, r_a3, r_a4, r_a5, r_a6⟩ := bc7 Ha_4.out
      have lt_b := Hb_4.out.lt
      obtain ⟨r_b0, r_b1, r_b2, r_b3, r_b4, r_b5, r_b6, r_b7, r_b8⟩ := bc9 Hb_4.out
      have lt_r := Hr_4.out.lt
      obtain ⟨r_r0, r_r1, r_r2, r_r3, r_r4, r_r5, r_r6⟩ := bc7 Hr_4.out
      have lt_z := Hz_4.out.lt
      obtain ⟨r_z0, r_z1, r_z2, r_z3, r_z4, r_z5, r_z6⟩ := bc7 Hz_4.out
      obtain ⟨z_r0, z_r1, z_r2, z_r3, z_r4, z_r5, z_r6⟩ := bf7 Hr_4.out
      go_wp21
      refine bodyPost_ret (v := .tuple #[.agg #[.int .i64 ex, .int .i64 et, .slice A5 rn c5, .slice B5 rm d5, .int .i64 rh, .int .i64 re, .int .i64 ru], .bool true]) (by simp [results, Tryz.results10, go_sem, *]) rfl ?_
      have nx : ∀ a, A5 = some a → a.block ≠ g2 := fun a ha => by have := Hx_4.out.ge a ha; omega
      have ny : ∀ a, B5 = some a → a.block ≠ g2 := fun a ha => by have := Hy_4.out.ge a ha; omega
      exact RetStateV.mk rfl rfl (row_far7 (Hx_4.out.mono (by omega)) nx _ _ _ _ _ _ _) (row_far7 (Hy_4.out.mono (by omega)) ny _ _ _ _ _ _ _) HAP.out (by (repeat' (first | (with_reducible exact Below.refl _ _) | (with_reducible assumption) | (with_reducible refine Below.alloc ?_ ?_ _) | (with_reducible refine Below.drew ?_) | (with_reducible refine Below.setCell ?_ ?_ _) | (with_reducible refine bstep (by assumption) ?_ ?_) | (with_reducible exact Nat.le_refl _) | omega | (simp [*]; done) | (simp [*]; omega))))
end Go.Proofs.YtokklkmibjpjnaaGreat
namespace Go.Proofs.YtokklkmibjpjnaaGreat
set_option linter.unusedSimpArgs false
set_option linter.unusedVariables false
attribute [local go_sem] n_lt2 n_lt3 n_lt4 n_le2 n_le3
open Go.RowKit
attribute [local go_sem] Ext.cell Ext.frozen
theorem l17Job_any (k a b c d : Int) (w : World) :
    Calls Tryz.prog 32 #[.agg #[.int .i64 k, .int .i64 a, .int .i64 b, .int .i64 c, .int .i64 d]] w fun e' w' => e' = .returned (.agg #[.int .i64 a, .int .i64 b, .int .i64 c, .int .i64 d, .int .i64 0]) ∧ Below w.heap.size w w' := by
  go_enter Tryz.func32, Tryz.ntmps32
  go_wp21
  refine bodyPost_ret (v := .agg #[.int .i64 a, .int .i64 b, .int .i64 c, .int .i64 d, .int .i64 0]) (by simp [results, Tryz.results32, go_sem, *]) rfl ?_
  exact ⟨rfl, by (repeat' (first | (with_reducible exact Below.refl _ _) | (with_reducible assumption) | (with_reducible refine Below.alloc ?_ ?_ _) | (with_reducible refine Below.drew ?_) | (with_reducible refine Below.setCell ?_ ?_ _) | (with_reducible refine bstep (by assumption) ?_ ?_) | (with_reducible exact Nat.le_refl _) | omega | (simp [*]; done) | (simp [*]; omega)))⟩
theorem effE_1 (l0 l1 l2 : Int) (pl : List Pr) (ql : List Jb) (ex et ec es ea eb eg eh : Int) : effE l0 l1 l2 pl ql ex et ec es 1 ea eb eg eh = (⟨(putR pl ea eb).1, ql, l0, l1, l2⟩, (putR pl ea eb).2) := by unfold effE; rw [if_pos rfl]
theorem effE_2 (l0 l1 l2 : Int) (pl : List Pr) (ql : List Jb) (ex et ec es ea eb eg eh : Int) : effE l0 l1 l2 pl ql ex et ec es 2 ea eb eg eh = (⟨(cutR pl ea).1, ql, l0, l1, l2⟩, (cutR pl ea).2) := by unfold effE; rw [if_neg (by decide), if_pos rfl]
theorem effE_3 (l0 l1 l2 : Int) (pl : List Pr) (ql : List Jb) (ex et ec es ea eb eg eh : Int) : effE l0 l1 l2 pl ql ex et ec es 3 ea eb eg eh = (⟨pl, (addR ql ⟨ea, eb, eg, eh, 0⟩).1, l0, l1, l2⟩, (addR ql ⟨ea, eb, eg, eh, 0⟩).2) := by unfold effE; rw [if_neg (by decide), if_neg (by decide), if_pos rfl]
theorem effE_4y {l0 l1 l2 : Int} {pl : List Pr} {ql : List Jb} {ex et ec es ea eb eg eh : Int} (h : firesB l0 l1 l2 ql et ec 4 ea eb = true) : effE l0 l1 l2 pl ql ex et ec es 4 ea eb eg eh = (⟨(putR pl (jobAtV ql ea).1.k (jobAtV ql ea).1.v).1, (firedR ql (jobAtV ql ea).1.i ex).1, l0, l1, l2⟩, true) := by unfold effE; rw [if_neg (by decide), if_neg (by decide), if_neg (by decide), if_pos rfl, if_pos h]
theorem effE_4n {l0 l1 l2 : Int} {pl : List Pr} {ql : List Jb} {ex et ec es ea eb eg eh : Int} (h : firesB l0 l1 l2 ql et ec 4 ea eb = false) : effE l0 l1 l2 pl ql ex et ec es 4 ea eb eg eh = (⟨pl, ql, l0, l1, l2⟩, false) := by unfold effE; rw [if_neg (by decide), if_neg (by decide), if_neg (by decide), if_pos rfl, if_neg (by rw [h]; decide)]
theorem effE_5 (l0 l1 l2 : Int) (pl : List Pr) (ql : List Jb) (ex et ec es ea eb eg eh : Int) : effE l0 l1 l2 pl ql ex et ec es 5 ea eb eg eh = (⟨pl, ql, (grantL l0 l1 l2 ec et ea).1.1, (grantL l0 l1 l2 ec et ea).1.2.1, (grantL l0 l1 l2 ec et ea).1.2.2⟩, (grantL l0 l1 l2 ec et ea).2) := by unfold effE; rw [if_neg (by decide), if_neg (by decide), if_neg (by decide), if_neg (by decide)]
theorem firesIn_at {i0 t0 l0 l1 l2 : Int} {pl : List Pr} {ql : List Jb} {ex et ec es ek ea eb eg eh : Int} (h : nextInB i0 t0 l0 l1 l2 pl ql ex et ec es ek ea eb eg eh = true) : firesInB i0 t0 l0 l1 l2 pl ql ex et ec es ek ea eb eg eh = firesB l0 l1 l2 ql et ec ek ea eb := by
  unfold firesInB
  rw [h]
  rfl
set_option maxRecDepth 100000 in
set_option maxHeartbeats 2000000 in
theorem specEff1 (A : Option Addr) (n c : Nat) (B : Option Addr) (m d : Nat) (i0 t0 l0 l1 l2 : Int) (pl : List Pr) (ql : List Jb) (ex et ec es ea eb eg eh : Int) (w : World) (hP : Sl w 2 A n (PR pl)) (hQ : Sl w 5 B m (JB ql)) (hl : pl.length = n) (hr : ql.length = m) (hn : n ≤ maxLen) (hm : m ≤ maxLen) (hA : A = none → n = 0 ∧ c = 0) (hB : B = none → m = 0 ∧ d = 0) (hN : Hid (nextInB i0 t0 l0 l1 l2 pl ql ex et ec es 1 ea eb eg eh = true)) (ok : Bool) (hok : ok = true) (x : Int) (hx : (if ok = true then 1 else 0) = x) :
    Calls Tryz.prog 14 #[.agg #[.int .i64 i0, .int .i64 t0, .slice A n c, .slice B m d, .int .i64 l0, .int .i64 l1, .int .i64 l2], .agg #[.int .i64 ex, .int .i64 et, .int .i64 ec, .int .i64 es, .int .i64 1, .int .i64 ea, .int .i64 eb, .int .i64 eg, .int .i64 eh]] w fun e' w' => e' = .returned (.int .i64 x) ∧ Below w.heap.size w w' := by
  have HP := Lib.hid hP
  have HQ := Lib.hid hQ
  have HA := Lib.hid hA
  have HB := Lib.hid hB
  have hL := Lib.hid hl
  have hR := Lib.hid hr
  clear hP hQ hA hB hl hr
  go_enter Tryz.func14, Tryz.ntmps14
  go_wp2_with fail
  refine calls_named ?_
  rintro v0 hv0
  have f0 : Below w.heap.size w v0 := by rw [hv0]; (repeat' (first | (with_reducible exact Below.refl _ _) | (with_reducible assumption) | (with_reducible refine Below.alloc ?_ ?_ _) | (with_reducible refine Below.drew ?_) | (with_reducible refine Below.setCell ?_ ?_ _) | (with_reducible refine bstep (by assumption) ?_ ?_) | (with_reducible exact Nat.le_refl _) | omega | (simp [*]; done) | (simp [*]; omega)))
  have z0 : w.heap.size + 2 ≤ v0.heap.size := by rw [hv0]; simp [size_set]
  have HP_0 := Lib.hid (HP.out.below f0)
  have HP_lt := Lib.hid (fun hn => HP.out.lt hn)
  have HQ_0 := Lib.hid (HQ.out.below f0)
  have HQ_lt := Lib.hid (fun hn => HQ.out.lt hn)
  have Ha_0 : Hid (Blk v0 w.heap.size 37 #[.int .i64 i0, .int .i64 t0, .slice A n c, .slice B m d, .int .i64 l0, .int .i64 l1, .int .i64 l2]) := by rw [hv0]; exact (Blk.new_at _ _ _ _ (by simp)).alloc _
  have Hb_0 : Hid (Blk v0 (w.heap.size + 1) 43 #[.int .i64 ex, .int .i64 et, .int .i64 ec, .int .i64 es, .int .i64 1, .int .i64 ea, .int .i64 eb, .int .i64 eg, .int .i64 eh]) := by rw [hv0]; exact Blk.new_at _ _ _ _ (by simp)
  clear hv0
  generalize hg1 : w.heap.size + 1 = g1 at *
  have lg1 : w.heap.size < g1 := by omega
  have lgz : g1 < v0.heap.size := by omega
  have nq1x0 : ¬ g1 = w.heap.size := by omega
  have nq0x1 : ¬ w.heap.size = g1 := by omega
  clear hg1
  have lt_a := Ha_0.out.lt
  obtain ⟨r_a0, r_a1, r_a2, r_a3, r_a4, r_a5, r_a6⟩ := bc7 Ha_0.out
  have lt_b := Hb_0.out.lt
  obtain ⟨r_b0, r_b1, r_b2, r_b3, r_b4, r_b5, r_b6, r_b7, r_b8⟩ := bc9 Hb_0.out
  have cc := specNextIn_any A n c B m d i0 t0 l0 l1 l2 pl ql ex et ec es 1 ea eb eg eh v0 HP_0.out HQ_0.out hL.out hR.out hn hm
  rw [hN.out] at cc
  refine (cc).mono ?_
  rintro e v1 ⟨rfl, b1⟩
  have f1 := bthen f0 b1
  have z1 := b1.size
  have HP_1 := Lib.hid (HP_0.out.below b1)
  have HQ_1 := Lib.hid (HQ_0.out.below b1)
  have Ha_1 := Lib.hid (Ha_0.out.below b1)
  have Hb_1 := Lib.hid (Hb_0.out.below b1)
  clear lt_a r_a0 r_a1 r_a2 r_a3 r_a4 r_a5 r_a6 lt_b r_b0 r_b1 r_b2 r_b3 r_b4 r_b5 r_b6 r_b7 r_b8
  clear HP_0 HQ_0 Ha_0 Hb_0
  clear cc
  have lt_a := Ha_1.out.lt
  obtain ⟨r_a0, r_a1, r_a2, r_a3, r_a4, r_a5, r_a6⟩ := bc7 Ha_1.out
  have lt_b := Hb_1.out.lt
  obtain ⟨r_b0, r_b1, r_b2, r_b3, r_b4, r_b5, r_b6, r_b7, r_b8⟩ := bc9 Hb_1.out
  subst hok
  rw [if_pos rfl] at hx
  subst hx
  go_wp21
  go_ret
  exact ⟨rfl, f1⟩
set_option maxRecDepth 100000 in
set_option maxHeartbeats 2000000 in
theorem specEff2 (A : Option Addr) (n c : Nat) (B : Option Addr) (m d : Nat) (i0 t0 l0 l1 l2 : Int) (pl : List Pr) (ql : List Jb) (ex et ec es ea eb eg eh : Int) (w : World) (hP : Sl w 2 A n (PR pl)) (hQ : Sl w 5 B m (JB ql)) (hl : pl.length = n) (hr : ql.length = m) (hn : n ≤ maxLen) (hm : m ≤ maxLen) (hA : A = none → n = 0 ∧ c = 0) (hB : B = none → m = 0 ∧ d = 0) (hN : Hid (nextInB i0 t0 l0 l1 l2 pl ql ex et ec es 2 ea eb eg eh = true)) (ok : Bool) (vv : Int) (hv : Hid (valueAtB pl ea = (vv, ok))) (x : Int) (hx : (if ok = true then 2 else 0) = x) :
    Calls Tryz.prog 14 #[.agg #[.int .i64 i0, .int .i64 t0, .slice A n c, .slice B m d, .int .i64 l0, .int .i64 l1, .int .i64 l2], .agg #[.int .i64 ex, .int .i64 et, .int .i64 ec, .int .i64 es, .int .i64 2, .int .i64 ea, .int .i64 eb, .int .i64 eg, .int .i64 eh]] w fun e' w' => e' = .returned (.int .i64 x) ∧ Below w.heap.size w w' := by
  have HP := Lib.hid hP
  have HQ := Lib.hid hQ
  have HA := Lib.hid hA
  have HB := Lib.hid hB
  have hL := Lib.hid hl
  have hR := Lib.hid hr
  clear hP hQ hA hB hl hr
  go_enter Tryz.func14, Tryz.ntmps14
  go_wp2_with fail
  refine calls_named ?_
  rintro v0 hv0
  have f0 : Below w.heap.size w v0 := by rw [hv0]; (repeat' (first | (with_reducible exact Below.refl _ _) | (with_reducible assumption) | (with_reducible refine Below.alloc ?_ ?_ _) | (with_reducible refine Below.drew ?_) | (with_reducible refine Below.setCell ?_ ?_ _) | (with_reducible refine bstep (by assumption) ?_ ?_) | (with_reducible exact Nat.le_refl _) | omega | (simp [*]; done) | (simp [*]; omega)))
  have z0 : w.heap.size + 2 ≤ v0.heap.size := by rw [hv0]; simp [size_set]
  have HP_0 := Lib.hid (HP.out.below f0)
  have HP_lt := Lib.hid (fun hn => HP.out.lt hn)
  have HQ_0 := Lib.hid (HQ.out.below f0)
  have HQ_lt := Lib.hid (fun hn => HQ.out.lt hn)
  have Ha_0 : Hid (Blk v0 w.heap.size 37 #[.int .i64 i0, .int .i64 t0, .slice A n c, .slice B m d, .int .i64 l0, .int .i64 l1, .int .i64 l2]) := by rw [hv0]; exact (Blk.new_at _ _ _ _ (by simp)).alloc _
  have Hb_0 : Hid (Blk v0 (w.heap.size + 1) 43 #[.int .i64 ex, .int .i64 et, .int .i64 ec, .int .i64 es, .int .i64 2, .int .i64 ea, .int .i64 eb, .int .i64 eg, .int .i64 eh]) := by rw [hv0]; exact Blk.new_at _ _ _ _ (by simp)
  clear hv0
  generalize hg1 : w.heap.size + 1 = g1 at *
  have lg1 : w.heap.size < g1 := by omega
  have lgz : g1 < v0.heap.size := by omega
  have nq1x0 : ¬ g1 = w.heap.size := by omega
  have nq0x1 : ¬ w.heap.size = g1 := by omega
  clear hg1
  have lt_a := Ha_0.out.lt
  obtain ⟨r_a0, r_a1, r_a2, r_a3, r_a4, r_a5, r_a6⟩ := bc7 Ha_0.out
  have lt_b := Hb_0.out.lt
  obtain ⟨r_b0, r_b1, r_b2, r_b3, r_b4, r_b5, r_b6, r_b7, r_b8⟩ := bc9 Hb_0.out
  have cc := specNextIn_any A n c B m d i0 t0 l0 l1 l2 pl ql ex et ec es 2 ea eb eg eh v0 HP_0.out HQ_0.out hL.out hR.out hn hm
  rw [hN.out] at cc
  refine (cc).mono ?_
  rintro e v1 ⟨rfl, b1⟩
  have f1 := bthen f0 b1
  have z1 := b1.size
  have HP_1 := Lib.hid (HP_0.out.below b1)
  have HQ_1 := Lib.hid (HQ_0.out.below b1)
  have Ha_1 := Lib.hid (Ha_0.out.below b1)
  have Hb_1 := Lib.hid (Hb_0.out.below b1)
  clear lt_a r_a0 r_a1 r_a2 r_a3 r_a4 r_a5 r_a6 lt_b r_b0 r_b1 r_b2 r_b3 r_b4 r_b5 r_b6 r_b7 r_b8
  clear HP_0 HQ_0 Ha_0 Hb_0
  clear cc
  have lt_a := Ha_1.out.lt
  obtain ⟨r_a0, r_a1, r_a2, r_a3, r_a4, r_a5, r_a6⟩ := bc7 Ha_1.out
  have lt_b := Hb_1.out.lt
  obtain ⟨r_b0, r_b1, r_b2, r_b3, r_b4, r_b5, r_b6, r_b7, r_b8⟩ := bc9 Hb_1.out
  have cc := specValueAt_any A n c pl ea v1 HP_1.out hL.out hn
  rw [hv.out] at cc
  cases ok with
  | true =>
    rw [if_pos rfl] at hx
    subst hx
    
    go_wp2_with fail
    refine (cc).mono ?_
    rintro e v2 ⟨rfl, b2⟩
    have f2 := bthen f1 b2
    have z2 := b2.size
    have HP_2 := Lib.hid (HP_1.out.below b2)
    have HQ_2 := Lib.hid (HQ_1.out.below b2)
    have Ha_2 := Lib.hid (Ha_1.out.below b2)
    have Hb_2 := Lib.hid (Hb_1.out.below b2)
    clear lt_a r_a0 r_a1 r_a2 r_a3 r_a4 r_a5 r_a6 lt_b r_b0 r_b1 r_b2 r_b3 r_b4 r_b5 r_b6 r_b7 r_b8
    clear HP_1 HQ_1 Ha_1 Hb_1
    clear cc
    have lt_a := Ha_2.out.lt
    obtain ⟨r_a0, r_a1, r_a2, r_a3, r_a4, r_a5, r_a6⟩ := bc7 Ha_2.out
    have lt_b := Hb_2.out.lt
    obtain ⟨r_b0, r_b1, r_b2, r_b3, r_b4, r_b5, r_b6, r_b7, r_b8⟩ := bc9 Hb_2.out
    go_wp21
    go_ret
    exact ⟨rfl, f2⟩
  | false =>
    rw [if_neg (by decide)] at hx
    subst hx
    
    go_wp2_with fail
    refine (cc).mono ?_
    rintro e v2 ⟨rfl, b2⟩
    have f2 := bthen f1 b2
    have z2 := b2.size
    have HP_2 := Lib.hid (HP_1.out.below b2)
    have HQ_2 := Lib.hid (HQ_1.out.below b2)
    have Ha_2 := Lib.hid (Ha_1.out.below b2)
    have Hb_2 := Lib.hid (Hb_1.out.below b2)
    clear lt_a r_a0 r_a1 r_a2 r_a3 r_a4 r_a5 r_a6 lt_b r_b0 r_b1 r_b2 r_b3 r_b4 r_b5 r_b6 r_b7 r_b8
    clear HP_1 HQ_1 Ha_1 Hb_1
    clear cc
    have lt_a := Ha_2.out.lt
    obtain ⟨r_a0, r_a1, r_a2, r_a3, r_a4, r_a5, r_a6⟩ := bc7 Ha_2.out
    have lt_b := Hb_2.out.lt
    obtain ⟨r_b0, r_b1, r_b2, r_b3, r_b4, r_b5, r_b6, r_b7, r_b8⟩ := bc9 Hb_2.out
    go_wp21
    go_ret
    exact ⟨rfl, f2⟩
set_option maxRecDepth 100000 in
set_option maxHeartbeats 2000000 in
theorem specEff3 (A : Option Addr) (n c : Nat) (B : Option Addr) (m d : Nat) (i0 t0 l0 l1 l2 : Int) (pl : List Pr) (ql : List Jb) (ex et ec es ea eb eg eh : Int) (w : World) (hP : Sl w 2 A n (PR pl)) (hQ : Sl w 5 B m (JB ql)) (hl : pl.length = n) (hr : ql.length = m) (hn : n ≤ maxLen) (hm : m ≤ maxLen) (hA : A = none → n = 0 ∧ c = 0) (hB : B = none → m = 0 ∧ d = 0) (hN : Hid (nextInB i0 t0 l0 l1 l2 pl ql ex et ec es 3 ea eb eg eh = true)) (ok : Bool) (q2 : List Jb) (m2 : Nat) (hv : Hid (addR ql ⟨ea, eb, eg, eh, 0⟩ = (q2, ok))) (hm2 : Hid (q2.length = m2)) (x : Int) (hx : (if ok = true then 3 else 0) = x) :
    Calls Tryz.prog 14 #[.agg #[.int .i64 i0, .int .i64 t0, .slice A n c, .slice B m d, .int .i64 l0, .int .i64 l1, .int .i64 l2], .agg #[.int .i64 ex, .int .i64 et, .int .i64 ec, .int .i64 es, .int .i64 3, .int .i64 ea, .int .i64 eb, .int .i64 eg, .int .i64 eh]] w fun e' w' => e' = .returned (.int .i64 x) ∧ Below w.heap.size w w' := by
  have HP := Lib.hid hP
  have HQ := Lib.hid hQ
  have HA := Lib.hid hA
  have HB := Lib.hid hB
  have hL := Lib.hid hl
  have hR := Lib.hid hr
  clear hP hQ hA hB hl hr
  go_enter Tryz.func14, Tryz.ntmps14
  go_wp2_with fail
  refine calls_named ?_
  rintro v0 hv0
  have f0 : Below w.heap.size w v0 := by rw [hv0]; (repeat' (first | (with_reducible exact Below.refl _ _) | (with_reducible assumption) | (with_reducible refine Below.alloc ?_ ?_ _) | (with_reducible refine Below.drew ?_) | (with_reducible refine Below.setCell ?_ ?_ _) | (with_reducible refine bstep (by assumption) ?_ ?_) | (with_reducible exact Nat.le_refl _) | omega | (simp [*]; done) | (simp [*]; omega)))
  have z0 : w.heap.size + 2 ≤ v0.heap.size := by rw [hv0]; simp [size_set]
  have HP_0 := Lib.hid (HP.out.below f0)
  have HP_lt := Lib.hid (fun hn => HP.out.lt hn)
  have HQ_0 := Lib.hid (HQ.out.below f0)
  have HQ_lt := Lib.hid (fun hn => HQ.out.lt hn)
  have Ha_0 : Hid (Blk v0 w.heap.size 37 #[.int .i64 i0, .int .i64 t0, .slice A n c, .slice B m d, .int .i64 l0, .int .i64 l1, .int .i64 l2]) := by rw [hv0]; exact (Blk.new_at _ _ _ _ (by simp)).alloc _
  have Hb_0 : Hid (Blk v0 (w.heap.size + 1) 43 #[.int .i64 ex, .int .i64 et, .int .i64 ec, .int .i64 es, .int .i64 3, .int .i64 ea, .int .i64 eb, .int .i64 eg, .int .i64 eh]) := by rw [hv0]; exact Blk.new_at _ _ _ _ (by simp)
  clear hv0
  generalize hg1 : w.heap.size + 1 = g1 at *
  have lg1 : w.heap.size < g1 := by omega
  have lgz : g1 < v0.heap.size := by omega
  have nq1x0 : ¬ g1 = w.heap.size := by omega
  have nq0x1 : ¬ w.heap.size = g1 := by omega
  clear hg1
  have lt_a := Ha_0.out.lt
  obtain ⟨r_a0, r_a1, r_a2, r_a3, r_a4, r_a5, r_a6⟩ := bc7 Ha_0.out
  have lt_b := Hb_0.out.lt
  obtain ⟨r_b0, r_b1, r_b2, r_b3, r_b4, r_b5, r_b6, r_b7, r_b8⟩ := bc9 Hb_0.out
  have cc := specNextIn_any A n c B m d i0 t0 l0 l1 l2 pl ql ex et ec es 3 ea eb eg eh v0 HP_0.out HQ_0.out hL.out hR.out hn hm
  rw [hN.out] at cc
  refine (cc).mono ?_
  rintro e v1 ⟨rfl, b1⟩
  have f1 := bthen f0 b1
  have z1 := b1.size
  have HP_1 := Lib.hid (HP_0.out.below b1)
  have HQ_1 := Lib.hid (HQ_0.out.below b1)
  have Ha_1 := Lib.hid (Ha_0.out.below b1)
  have Hb_1 := Lib.hid (Hb_0.out.below b1)
  clear lt_a r_a0 r_a1 r_a2 r_a3 r_a4 r_a5 r_a6 lt_b r_b0 r_b1 r_b2 r_b3 r_b4 r_b5 r_b6 r_b7 r_b8
  clear HP_0 HQ_0 Ha_0 Hb_0
  clear cc
  have lt_a := Ha_1.out.lt
  obtain ⟨r_a0, r_a1, r_a2, r_a3, r_a4, r_a5, r_a6⟩ := bc7 Ha_1.out
  have lt_b := Hb_1.out.lt
  obtain ⟨r_b0, r_b1, r_b2, r_b3, r_b4, r_b5, r_b6, r_b7, r_b8⟩ := bc9 Hb_1.out
  have cc : ∀ u1, Below v1.heap.size v1 u1 → Calls Tryz.prog 31 #[.slice B m d, .agg #[.int .i64 ea, .int .i64 eb, .int .i64 eg, .int .i64 eh, .int .i64 0]] u1 (fun e u2 => ∃ A2 c2, e = .returned (.tuple #[.slice A2 m2 c2, .bool ok]) ∧ Below u1.heap.size u1 u2) := fun u1 hb => by
    have c1 := addedRS_any B m d ql ea eb eg eh 0 u1 (HQ_1.out.below hb) hR.out hm HB.out
    rw [hv.out] at c1
    refine c1.mono ?_
    rintro e u2 ⟨A2, c2, rfl, -, b2⟩
    have := hm2.out
    subst this
    exact ⟨A2, c2, rfl, b2⟩
  clear hv hm2
  cases ok with
  | true =>
    rw [if_pos rfl] at hx
    subst hx
    go_upto_region 14 with fail
    have hS0 : ∀ b o, b < v1.heap.size → v1.cell? ⟨b, o, none⟩ = v1.cell? ⟨b, o, none⟩ := fun b o hb => rfl
    go_region_held_law (fun w' => ∀ b o, b < v1.heap.size → w'.cell? ⟨b, o, none⟩ = v1.cell? ⟨b, o, none⟩) (repeat' (first | with_reducible assumption | with_reducible exact hS0 | with_reducible refine hl_drew ?_)) (first | (go_at_call 32; refine (l17Job_any 3 ea eb eg eh _).mono ?_; rintro e u1 ⟨rfl, b1⟩; have E1 : Below v1.heap.size v1 u1 := (by first | with_reducible exact b1 | with_reducible exact tb_dr b1); have hS1 : ∀ b o, b < v1.heap.size → u1.cell? ⟨b, o, none⟩ = v1.cell? ⟨b, o, none⟩ := fun b o hb => E1.cell (p := ⟨b, o, none⟩) hb) | (go_at_call 31; refine (cc _ E1).mono ?_; rintro e u2 ⟨A2, c2, rfl, b2⟩; have E2 := bthen E1 b2; have hS2 : ∀ b o, b < v1.heap.size → u2.cell? ⟨b, o, none⟩ = v1.cell? ⟨b, o, none⟩ := fun b o hb => E2.cell (p := ⟨b, o, none⟩) hb))
    all_goals
      go_wp21
      go_ret
      exact ⟨rfl, bthen f1 E2⟩
  | false =>
    rw [if_neg (by decide)] at hx
    subst hx
    go_upto_region 14 with fail
    have hS0 : ∀ b o, b < v1.heap.size → v1.cell? ⟨b, o, none⟩ = v1.cell? ⟨b, o, none⟩ := fun b o hb => rfl
    go_region_held_law (fun w' => ∀ b o, b < v1.heap.size → w'.cell? ⟨b, o, none⟩ = v1.cell? ⟨b, o, none⟩) (repeat' (first | with_reducible assumption | with_reducible exact hS0 | with_reducible refine hl_drew ?_)) (first | (go_at_call 32; refine (l17Job_any 3 ea eb eg eh _).mono ?_; rintro e u1 ⟨rfl, b1⟩; have E1 : Below v1.heap.size v1 u1 := (by first | with_reducible exact b1 | with_reducible exact tb_dr b1); have hS1 : ∀ b o, b < v1.heap.size → u1.cell? ⟨b, o, none⟩ = v1.cell? ⟨b, o, none⟩ := fun b o hb => E1.cell (p := ⟨b, o, none⟩) hb) | (go_at_call 31; refine (cc _ E1).mono ?_; rintro e u2 ⟨A2, c2, rfl, b2⟩; have E2 := bthen E1 b2; have hS2 : ∀ b o, b < v1.heap.size → u2.cell? ⟨b, o, none⟩ = v1.cell? ⟨b, o, none⟩ := fun b o hb => E2.cell (p := ⟨b, o, none⟩) hb))
    all_goals
      go_wp21
      go_ret
      exact ⟨rfl, bthen f1 E2⟩
set_option maxRecDepth 100000 in
set_option maxHeartbeats 2000000 in
theorem specEff4 (A : Option Addr) (n c : Nat) (B : Option Addr) (m d : Nat) (i0 t0 l0 l1 l2 : Int) (pl : List Pr) (ql : List Jb) (ex et ec es ea eb eg eh : Int) (w : World) (hP : Sl w 2 A n (PR pl)) (hQ : Sl w 5 B m (JB ql)) (hl : pl.length = n) (hr : ql.length = m) (hn : n ≤ maxLen) (hm : m ≤ maxLen) (hA : A = none → n = 0 ∧ c = 0) (hB : B = none → m = 0 ∧ d = 0) (hN : Hid (nextInB i0 t0 l0 l1 l2 pl ql ex et ec es 4 ea eb eg eh = true)) (ok : Bool) (hv : Hid (firesInB i0 t0 l0 l1 l2 pl ql ex et ec es 4 ea eb eg eh = ok)) (x : Int) (hx : (if ok = true then 4 else 0) = x) :
    Calls Tryz.prog 14 #[.agg #[.int .i64 i0, .int .i64 t0, .slice A n c, .slice B m d, .int .i64 l0, .int .i64 l1, .int .i64 l2], .agg #[.int .i64 ex, .int .i64 et, .int .i64 ec, .int .i64 es, .int .i64 4, .int .i64 ea, .int .i64 eb, .int .i64 eg, .int .i64 eh]] w fun e' w' => e' = .returned (.int .i64 x) ∧ Below w.heap.size w w' := by
  have HP := Lib.hid hP
  have HQ := Lib.hid hQ
  have HA := Lib.hid hA
  have HB := Lib.hid hB
  have hL := Lib.hid hl
  have hR := Lib.hid hr
  clear hP hQ hA hB hl hr
  go_enter Tryz.func14, Tryz.ntmps14
  go_wp2_with fail
  refine calls_named ?_
  rintro v0 hv0
  have f0 : Below w.heap.size w v0 := by rw [hv0]; (repeat' (first | (with_reducible exact Below.refl _ _) | (with_reducible assumption) | (with_reducible refine Below.alloc ?_ ?_ _) | (with_reducible refine Below.drew ?_) | (with_reducible refine Below.setCell ?_ ?_ _) | (with_reducible refine bstep (by assumption) ?_ ?_) | (with_reducible exact Nat.le_refl _) | omega | (simp [*]; done) | (simp [*]; omega)))
  have z0 : w.heap.size + 2 ≤ v0.heap.size := by rw [hv0]; simp [size_set]
  have HP_0 := Lib.hid (HP.out.below f0)
  have HP_lt := Lib.hid (fun hn => HP.out.lt hn)
  have HQ_0 := Lib.hid (HQ.out.below f0)
  have HQ_lt := Lib.hid (fun hn => HQ.out.lt hn)
  have Ha_0 : Hid (Blk v0 w.heap.size 37 #[.int .i64 i0, .int .i64 t0, .slice A n c, .slice B m d, .int .i64 l0, .int .i64 l1, .int .i64 l2]) := by rw [hv0]; exact (Blk.new_at _ _ _ _ (by simp)).alloc _
  have Hb_0 : Hid (Blk v0 (w.heap.size + 1) 43 #[.int .i64 ex, .int .i64 et, .int .i64 ec, .int .i64 es, .int .i64 4, .int .i64 ea, .int .i64 eb, .int .i64 eg, .int .i64 eh]) := by rw [hv0]; exact Blk.new_at _ _ _ _ (by simp)
  clear hv0
  generalize hg1 : w.heap.size + 1 = g1 at *
  have lg1 : w.heap.size < g1 := by omega
  have lgz : g1 < v0.heap.size := by omega
  have nq1x0 : ¬ g1 = w.heap.size := by omega
  have nq0x1 : ¬ w.heap.size = g1 := by omega
  clear hg1
  have lt_a := Ha_0.out.lt
  obtain ⟨r_a0, r_a1, r_a2, r_a3, r_a4, r_a5, r_a6⟩ := bc7 Ha_0.out
  have lt_b := Hb_0.out.lt
  obtain ⟨r_b0, r_b1, r_b2, r_b3, r_b4, r_b5, r_b6, r_b7, r_b8⟩ := bc9 Hb_0.out
  have cc := specNextIn_any A n c B m d i0 t0 l0 l1 l2 pl ql ex et ec es 4 ea eb eg eh v0 HP_0.out HQ_0.out hL.out hR.out hn hm
  rw [hN.out] at cc
  refine (cc).mono ?_
  rintro e v1 ⟨rfl, b1⟩
  have f1 := bthen f0 b1
  have z1 := b1.size
  have HP_1 := Lib.hid (HP_0.out.below b1)
  have HQ_1 := Lib.hid (HQ_0.out.below b1)
  have Ha_1 := Lib.hid (Ha_0.out.below b1)
  have Hb_1 := Lib.hid (Hb_0.out.below b1)
  clear lt_a r_a0 r_a1 r_a2 r_a3 r_a4 r_a5 r_a6 lt_b r_b0 r_b1 r_b2 r_b3 r_b4 r_b5 r_b6 r_b7 r_b8
  clear HP_0 HQ_0 Ha_0 Hb_0
  clear cc
  have lt_a := Ha_1.out.lt
  obtain ⟨r_a0, r_a1, r_a2, r_a3, r_a4, r_a5, r_a6⟩ := bc7 Ha_1.out
  have lt_b := Hb_1.out.lt
  obtain ⟨r_b0, r_b1, r_b2, r_b3, r_b4, r_b5, r_b6, r_b7, r_b8⟩ := bc9 Hb_1.out
  have cc := specFiresIn_any A n c B m d i0 t0 l0 l1 l2 pl ql ex et ec es 4 ea eb eg eh v1 HP_1.out HQ_1.out hL.out hR.out hn hm
  rw [hv.out] at cc
  cases ok with
  | true =>
    rw [if_pos rfl] at hx
    subst hx
    
    go_wp2_with fail
    refine (cc).mono ?_
    rintro e v2 ⟨rfl, b2⟩
    have f2 := bthen f1 b2
    have z2 := b2.size
    have HP_2 := Lib.hid (HP_1.out.below b2)
    have HQ_2 := Lib.hid (HQ_1.out.below b2)
    have Ha_2 := Lib.hid (Ha_1.out.below b2)
    have Hb_2 := Lib.hid (Hb_1.out.below b2)
    clear lt_a r_a0 r_a1 r_a2 r_a3 r_a4 r_a5 r_a6 lt_b r_b0 r_b1 r_b2 r_b3 r_b4 r_b5 r_b6 r_b7 r_b8
    clear HP_1 HQ_1 Ha_1 Hb_1
    clear cc
    have lt_a := Ha_2.out.lt
    obtain ⟨r_a0, r_a1, r_a2, r_a3, r_a4, r_a5, r_a6⟩ := bc7 Ha_2.out
    have lt_b := Hb_2.out.lt
    obtain ⟨r_b0, r_b1, r_b2, r_b3, r_b4, r_b5, r_b6, r_b7, r_b8⟩ := bc9 Hb_2.out
    go_wp21
    go_ret
    exact ⟨rfl, f2⟩
  | false =>
    rw [if_neg (by decide)] at hx
    subst hx
    
    go_wp2_with fail
    refine (cc).mono ?_
    rintro e v2 ⟨rfl, b2⟩
    have f2 := bthen f1 b2
    have z2 := b2.size
    have HP_2 := Lib.hid (HP_1.out.below b2)
    have HQ_2 := Lib.hid (HQ_1.out.below b2)
    have Ha_2 := Lib.hid (Ha_1.out.below b2)
    have Hb_2 := Lib.hid (Hb_1.out.below b2)
    clear lt_a r_a0 r_a1 r_a2 r_a3 r_a4 r_a5 r_a6 lt_b r_b0 r_b1 r_b2 r_b3 r_b4 r_b5 r_b6 r_b7 r_b8
    clear HP_1 HQ_1 Ha_1 Hb_1
    clear cc
    have lt_a := Ha_2.out.lt
    obtain ⟨r_a0, r_a1, r_a2, r_a3, r_a4, r_a5, r_a6⟩ := bc7 Ha_2.out
    have lt_b := Hb_2.out.lt
    obtain ⟨r_b0, r_b1, r_b2, r_b3, r_b4, r_b5, r_b6, r_b7, r_b8⟩ := bc9 Hb_2.out
    go_wp21
    go_ret
    exact ⟨rfl, f2⟩
set_option maxRecDepth 100000 in
set_option maxHeartbeats 2000000 in
theorem specEff5 (A : Option Addr) (n c : Nat) (B : Option Addr) (m d : Nat) (i0 t0 l0 l1 l2 : Int) (pl : List Pr) (ql : List Jb) (ex et ec es ea eb eg eh : Int) (w : World) (hP : Sl w 2 A n (PR pl)) (hQ : Sl w 5 B m (JB ql)) (hl : pl.length = n) (hr : ql.length = m) (hn : n ≤ maxLen) (hm : m ≤ maxLen) (hA : A = none → n = 0 ∧ c = 0) (hB : B = none → m = 0 ∧ d = 0) (hN : Hid (nextInB i0 t0 l0 l1 l2 pl ql ex et ec es 5 ea eb eg eh = true)) (ok : Bool) (h2 e2 u2 : Int) (hv : Hid (grantL l0 l1 l2 ec et ea = ((h2, e2, u2), ok))) (x : Int) (hx : (if ok = true then 5 else 0) = x) :
    Calls Tryz.prog 14 #[.agg #[.int .i64 i0, .int .i64 t0, .slice A n c, .slice B m d, .int .i64 l0, .int .i64 l1, .int .i64 l2], .agg #[.int .i64 ex, .int .i64 et, .int .i64 ec, .int .i64 es, .int .i64 5, .int .i64 ea, .int .i64 eb, .int .i64 eg, .int .i64 eh]] w fun e' w' => e' = .returned (.int .i64 x) ∧ Below w.heap.size w w' := by
  have HP := Lib.hid hP
  have HQ := Lib.hid hQ
  have HA := Lib.hid hA
  have HB := Lib.hid hB
  have hL := Lib.hid hl
  have hR := Lib.hid hr
  clear hP hQ hA hB hl hr
  go_enter Tryz.func14, Tryz.ntmps14
  go_wp2_with fail
  refine calls_named ?_
  rintro v0 hv0
  have f0 : Below w.heap.size w v0 := by rw [hv0]; (repeat' (first | (with_reducible exact Below.refl _ _) | (with_reducible assumption) | (with_reducible refine Below.alloc ?_ ?_ _) | (with_reducible refine Below.drew ?_) | (with_reducible refine Below.setCell ?_ ?_ _) | (with_reducible refine bstep (by assumption) ?_ ?_) | (with_reducible exact Nat.le_refl _) | omega | (simp [*]; done) | (simp [*]; omega)))
  have z0 : w.heap.size + 2 ≤ v0.heap.size := by rw [hv0]; simp [size_set]
  have HP_0 := Lib.hid (HP.out.below f0)
  have HP_lt := Lib.hid (fun hn => HP.out.lt hn)
  have HQ_0 := Lib.hid (HQ.out.below f0)
  have HQ_lt := Lib.hid (fun hn => HQ.out.lt hn)
  have Ha_0 : Hid (Blk v0 w.heap.size 37 #[.int .i64 i0, .int .i64 t0, .slice A n c, .slice B m d, .int .i64 l0, .int .i64 l1, .int .i64 l2]) := by rw [hv0]; exact (Blk.new_at _ _ _ _ (by simp)).alloc _
  have Hb_0 : Hid (Blk v0 (w.heap.size + 1) 43 #[.int .i64 ex, .int .i64 et, .int .i64 ec, .int .i64 es, .int .i64 5, .int .i64 ea, .int .i64 eb, .int .i64 eg, .int .i64 eh]) := by rw [hv0]; exact Blk.new_at _ _ _ _ (by simp)
  clear hv0
  generalize hg1 : w.heap.size + 1 = g1 at *
  have lg1 : w.heap.size < g1 := by omega
  have lgz : g1 < v0.heap.size := by omega
  have nq1x0 : ¬ g1 = w.heap.size := by omega
  have nq0x1 : ¬ w.heap.size = g1 := by omega
  clear hg1
  have lt_a := Ha_0.out.lt
  obtain ⟨r_a0, r_a1, r_a2, r_a3, r_a4, r_a5, r_a6⟩ := bc7 Ha_0.out
  have lt_b := Hb_0.out.lt
  obtain ⟨r_b0, r_b1, r_b2, r_b3, r_b4, r_b5, r_b6, r_b7, r_b8⟩ := bc9 Hb_0.out
  have cc := specNextIn_any A n c B m d i0 t0 l0 l1 l2 pl ql ex et ec es 5 ea eb eg eh v0 HP_0.out HQ_0.out hL.out hR.out hn hm
  rw [hN.out] at cc
  refine (cc).mono ?_
  rintro e v1 ⟨rfl, b1⟩
  have f1 := bthen f0 b1
  have z1 := b1.size
  have HP_1 := Lib.hid (HP_0.out.below b1)
  have HQ_1 := Lib.hid (HQ_0.out.below b1)
  have Ha_1 := Lib.hid (Ha_0.out.below b1)
  have Hb_1 := Lib.hid (Hb_0.out.below b1)
  clear lt_a r_a0 r_a1 r_a2 r_a3 r_a4 r_a5 r_a6 lt_b r_b0 r_b1 r_b2 r_b3 r_b4 r_b5 r_b6 r_b7 r_b8
  clear HP_0 HQ_0 Ha_0 Hb_0
  clear cc
  have lt_a := Ha_1.out.lt
  obtain ⟨r_a0, r_a1, r_a2, r_a3, r_a4, r_a5, r_a6⟩ := bc7 Ha_1.out
  have lt_b := Hb_1.out.lt
  obtain ⟨r_b0, r_b1, r_b2, r_b3, r_b4, r_b5, r_b6, r_b7, r_b8⟩ := bc9 Hb_1.out
  have cc := specGranted_any l0 l1 l2 ec et ea v1
  rw [hv.out] at cc
  replace cc : Calls _ _ _ _ (fun e w1 => e = .returned (.tuple #[.agg #[.int .i64 h2, .int .i64 e2, .int .i64 u2], .bool ok]) ∧ Below v1.heap.size v1 w1) := cc
  cases ok with
  | true =>
    rw [if_pos rfl] at hx
    subst hx
    
    go_wp2_with fail
    refine (cc).mono ?_
    rintro e v2 ⟨rfl, b2⟩
    have f2 := bthen f1 b2
    have z2 := b2.size
    have HP_2 := Lib.hid (HP_1.out.below b2)
    have HQ_2 := Lib.hid (HQ_1.out.below b2)
    have Ha_2 := Lib.hid (Ha_1.out.below b2)
    have Hb_2 := Lib.hid (Hb_1.out.below b2)
    clear lt_a r_a0 r_a1 r_a2 r_a3 r_a4 r_a5 r_a6 lt_b r_b0 r_b1 r_b2 r_b3 r_b4 r_b5 r_b6 r_b7 r_b8
    clear HP_1 HQ_1 Ha_1 Hb_1
    clear cc
    have lt_a := Ha_2.out.lt
    obtain ⟨r_a0, r_a1, r_a2, r_a3, r_a4, r_a5, r_a6⟩ := bc7 Ha_2.out
    have lt_b := Hb_2.out.lt
    obtain ⟨r_b0, r_b1, r_b2, r_b3, r_b4, r_b5, r_b6, r_b7, r_b8⟩ := bc9 Hb_2.out
    go_wp21
    go_ret
    exact ⟨rfl, f2⟩
  | false =>
    rw [if_neg (by decide)] at hx
    subst hx
    
    go_wp2_with fail
    refine (cc).mono ?_
    rintro e v2 ⟨rfl, b2⟩
    have f2 := bthen f1 b2
    have z2 := b2.size
    have HP_2 := Lib.hid (HP_1.out.below b2)
    have HQ_2 := Lib.hid (HQ_1.out.below b2)
    have Ha_2 := Lib.hid (Ha_1.out.below b2)
    have Hb_2 := Lib.hid (Hb_1.out.below b2)
    clear lt_a r_a0 r_a1 r_a2 r_a3 r_a4 r_a5 r_a6 lt_b r_b0 r_b1 r_b2 r_b3 r_b4 r_b5 r_b6 r_b7 r_b8
    clear HP_1 HQ_1 Ha_1 Hb_1
    clear cc
    have lt_a := Ha_2.out.lt
    obtain ⟨r_a0, r_a1, r_a2, r_a3, r_a4, r_a5, r_a6⟩ := bc7 Ha_2.out
    have lt_b := Hb_2.out.lt
    obtain ⟨r_b0, r_b1, r_b2, r_b3, r_b4, r_b5, r_b6, r_b7, r_b8⟩ := bc9 Hb_2.out
    go_wp21
    go_ret
    exact ⟨rfl, f2⟩
set_option maxRecDepth 100000 in
theorem specEff_no (A : Option Addr) (n c : Nat) (B : Option Addr) (m d : Nat) (i0 t0 l0 l1 l2 : Int) (pl : List Pr) (ql : List Jb) (ex et ec es ek ea eb eg eh : Int) (w : World) (hP : Sl w 2 A n (PR pl)) (hQ : Sl w 5 B m (JB ql)) (hl : pl.length = n) (hr : ql.length = m) (hn : n ≤ maxLen) (hm : m ≤ maxLen) (hA : A = none → n = 0 ∧ c = 0) (hB : B = none → m = 0 ∧ d = 0) (hN : Hid (nextInB i0 t0 l0 l1 l2 pl ql ex et ec es ek ea eb eg eh = false)) :
    Calls Tryz.prog 14 #[.agg #[.int .i64 i0, .int .i64 t0, .slice A n c, .slice B m d, .int .i64 l0, .int .i64 l1, .int .i64 l2], .agg #[.int .i64 ex, .int .i64 et, .int .i64 ec, .int .i64 es, .int .i64 ek, .int .i64 ea, .int .i64 eb, .int .i64 eg, .int .i64 eh]] w fun e' w' => e' = .returned (.int .i64 (-1)) ∧ Below w.heap.size w w' := by
  have HP := Lib.hid hP
  have HQ := Lib.hid hQ
  have HA := Lib.hid hA
  have HB := Lib.hid hB
  have hL := Lib.hid hl
  have hR := Lib.hid hr
  clear hP hQ hA hB hl hr
  go_enter Tryz.func14, Tryz.ntmps14
  go_wp2_with fail
  refine calls_named ?_
  rintro v0 hv0
  have f0 : Below w.heap.size w v0 := by rw [hv0]; (repeat' (first | (with_reducible exact Below.refl _ _) | (with_reducible assumption) | (with_reducible refine Below.alloc ?_ ?_ _) | (with_reducible refine Below.drew ?_) | (with_reducible refine Below.setCell ?_ ?_ _) | (with_reducible refine bstep (by assumption) ?_ ?_) | (with_reducible exact Nat.le_refl _) | omega | (simp [*]; done) | (simp [*]; omega)))
  have z0 : w.heap.size + 2 ≤ v0.heap.size := by rw [hv0]; simp [size_set]
  have HP_0 := Lib.hid (HP.out.below f0)
  have HP_lt := Lib.hid (fun hn => HP.out.lt hn)
  have HQ_0 := Lib.hid (HQ.out.below f0)
  have HQ_lt := Lib.hid (fun hn => HQ.out.lt hn)
  have Ha_0 : Hid (Blk v0 w.heap.size 37 #[.int .i64 i0, .int .i64 t0, .slice A n c, .slice B m d, .int .i64 l0, .int .i64 l1, .int .i64 l2]) := by rw [hv0]; exact (Blk.new_at _ _ _ _ (by simp)).alloc _
  have Hb_0 : Hid (Blk v0 (w.heap.size + 1) 43 #[.int .i64 ex, .int .i64 et, .int .i64 ec, .int .i64 es, .int .i64 ek, .int .i64 ea, .int .i64 eb, .int .i64 eg, .int .i64 eh]) := by rw [hv0]; exact Blk.new_at _ _ _ _ (by simp)
  clear hv0
  generalize hg1 : w.heap.size + 1 = g1 at *
  have lg1 : w.heap.size < g1 := by omega
  have lgz : g1 < v0.heap.size := by omega
  have nq1x0 : ¬ g1 = w.heap.size := by omega
  have nq0x1 : ¬ w.heap.size = g1 := by omega
  clear hg1
  have lt_a := Ha_0.out.lt
  obtain ⟨r_a0, r_a1, r_a2, r_a3, r_a4, r_a5, r_a6⟩ := bc7 Ha_0.out
  have lt_b := Hb_0.out.lt
  obtain ⟨r_b0, r_b1, r_b2, r_b3, r_b4, r_b5, r_b6, r_b7, r_b8⟩ := bc9 Hb_0.out
  have cc := specNextIn_any A n c B m d i0 t0 l0 l1 l2 pl ql ex et ec es ek ea eb eg eh v0 HP_0.out HQ_0.out hL.out hR.out hn hm
  rw [hN.out] at cc
  refine (cc).mono ?_
  rintro e v1 ⟨rfl, b1⟩
  have f1 := bthen f0 b1
  have z1 := b1.size
  have HP_1 := Lib.hid (HP_0.out.below b1)
  have HQ_1 := Lib.hid (HQ_0.out.below b1)
  have Ha_1 := Lib.hid (Ha_0.out.below b1)
  have Hb_1 := Lib.hid (Hb_0.out.below b1)
  clear lt_a r_a0 r_a1 r_a2 r_a3 r_a4 r_a5 r_a6 lt_b r_b0 r_b1 r_b2 r_b3 r_b4 r_b5 r_b6 r_b7 r_b8
  clear HP_0 HQ_0 Ha_0 Hb_0
  clear cc
  have lt_a := Ha_1.out.lt
  obtain ⟨r_a0, r_a1, r_a2, r_a3, r_a4, r_a5, r_a6⟩ := bc7 Ha_1.out
  have lt_b := Hb_1.out.lt
  obtain ⟨r_b0, r_b1, r_b2, r_b3, r_b4, r_b5, r_b6, r_b7, r_b8⟩ := bc9 Hb_1.out
  go_wp21
  go_ret
  exact ⟨rfl, f1⟩
theorem specEffectOf_any (A : Option Addr) (n c : Nat) (B : Option Addr) (m d : Nat) (i0 t0 l0 l1 l2 : Int) (pl : List Pr) (ql : List Jb) (ex et ec es ek ea eb eg eh : Int) (w : World) (hP : Sl w 2 A n (PR pl)) (hQ : Sl w 5 B m (JB ql)) (hl : pl.length = n) (hr : ql.length = m) (hn : n ≤ maxLen) (hm : m ≤ maxLen) (hA : A = none → n = 0 ∧ c = 0) (hB : B = none → m = 0 ∧ d = 0) (x : Int) (hx : effI i0 t0 l0 l1 l2 pl ql ex et ec es ek ea eb eg eh = x) :
    Calls Tryz.prog 14 #[.agg #[.int .i64 i0, .int .i64 t0, .slice A n c, .slice B m d, .int .i64 l0, .int .i64 l1, .int .i64 l2], .agg #[.int .i64 ex, .int .i64 et, .int .i64 ec, .int .i64 es, .int .i64 ek, .int .i64 ea, .int .i64 eb, .int .i64 eg, .int .i64 eh]] w fun e' w' => e' = .returned (.int .i64 x) ∧ Below w.heap.size w w' := by
  cases q1 : nextInB i0 t0 l0 l1 l2 pl ql ex et ec es ek ea eb eg eh with
  | false =>
    have : x = -1 := by rw [← hx]; unfold effI; rw [if_neg (by rw [q1]; decide)]
    subst this
    exact specEff_no A n c B m d i0 t0 l0 l1 l2 pl ql ex et ec es ek ea eb eg eh w hP hQ hl hr hn hm hA hB (Lib.hid q1)
  | true =>
    have hx2 : appI l0 l1 l2 pl ql ex et ec es ek ea eb eg eh = x := by rw [← hx]; unfold effI; rw [if_pos q1]
    obtain ⟨hs, hnx⟩ := nextInB_both q1
    have hpb := (stateB_all hs).2.2.1
    clear hx
    unfold appI at hx2
    rcases nextB_kind hnx with rfl | rfl | rfl | rfl | rfl
    · rw [effE_1] at hx2
      exact specEff1 A n c B m d i0 t0 l0 l1 l2 pl ql ex et ec es ea eb eg eh w hP hQ hl hr hn hm hA hB (Lib.hid q1) _ (put_does hs hnx) x hx2
    · rw [effE_2] at hx2
      exact specEff2 A n c B m d i0 t0 l0 l1 l2 pl ql ex et ec es ea eb eg eh w hP hQ hl hr hn hm hA hB (Lib.hid q1) (valueAtB pl ea).2 (valueAtB pl ea).1 (Lib.hid rfl) x (by rw [ef_cut_is hpb]; exact hx2)
    · rw [effE_3] at hx2
      exact specEff3 A n c B m d i0 t0 l0 l1 l2 pl ql ex et ec es ea eb eg eh w hP hQ hl hr hn hm hA hB (Lib.hid q1) _ _ _ (Lib.hid rfl) (Lib.hid rfl) x hx2
    · refine specEff4 A n c B m d i0 t0 l0 l1 l2 pl ql ex et ec es ea eb eg eh w hP hQ hl hr hn hm hA hB (Lib.hid q1) _ (Lib.hid (firesIn_at q1)) x ?_
      cases hf : firesB l0 l1 l2 ql et ec 4 ea eb with
      | false => rw [effE_4n hf] at hx2; exact hx2
      | true => rw [effE_4y hf] at hx2; exact hx2
    · rw [effE_5] at hx2
      exact specEff5 A n c B m d i0 t0 l0 l1 l2 pl ql ex et ec es ea eb eg eh w hP hQ hl hr hn hm hA hB (Lib.hid q1) _ _ _ _ (Lib.hid rfl) x hx2
end Go.Proofs.YtokklkmibjpjnaaGreat

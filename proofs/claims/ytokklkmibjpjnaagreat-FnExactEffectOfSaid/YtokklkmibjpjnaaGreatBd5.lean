/- Part 5 of what the claim rests on: T3Y1, T3Y2, T3Y3, T3Y4, T3Y5, T3N1, T3N2, T3N3. No condition of its own. -/
import Derived.Test.YtokklkmibjpjnaaGreatBd4
namespace Go.Proofs.YtokklkmibjpjnaaGreat
set_option linter.unusedSimpArgs false
set_option linter.unusedVariables false
attribute [local go_sem] n_lt2 n_lt3 n_lt4 n_le2 n_le3
open Go.RowKit
attribute [local go_sem] Ext.cell Ext.frozen
set_option maxRecDepth 100000 in
set_option maxHeartbeats 8000000 in
theorem applied_yes1 (A : Option Addr) (n c : Nat) (B : Option Addr) (m d : Nat) (i0 t0 l0 l1 l2 : Int) (pl : List Pr) (ql : List Jb) (ex et ec es ea eb eg eh : Int) (w : World) (hP : Sl w 2 A n (PR pl)) (hQ : Sl w 5 B m (JB ql)) (hl : pl.length = n) (hr : ql.length = m) (hn : n ≤ 1000) (hm : m ≤ 1000) (hA : A = none → n = 0 ∧ c = 0) (hB : B = none → m = 0 ∧ d = 0) (p2 : List Pr) (q2 : List Jb) (h2 e2 u2 : Int) (hp2 : p2.length ≤ 1000) (hq2 : q2.length ≤ 1000) (hE : Hid (effE l0 l1 l2 pl ql ex et ec es 1 ea eb eg eh = (⟨p2, q2, h2, e2, u2⟩, true))) :
    Calls Tryz.prog 43 #[.agg #[.int .i64 i0, .int .i64 t0, .slice A n c, .slice B m d, .int .i64 l0, .int .i64 l1, .int .i64 l2], .agg #[.int .i64 ex, .int .i64 et, .int .i64 ec, .int .i64 es, .int .i64 1, .int .i64 ea, .int .i64 eb, .int .i64 eg, .int .i64 eh]] w (RetStateV w ex et h2 e2 u2 p2.length (PR p2) q2.length (JB q2) (.int .i64 1)) := by
  have HP := Lib.hid hP
  have HQ := Lib.hid hQ
  have HA := Lib.hid hA
  have HB := Lib.hid hB
  have hL := Lib.hid hl
  have hR := Lib.hid hr
  clear hP hQ hA hB hl hr
  go_enter Tryz.func43, Tryz.ntmps43
  go_upto_region 1 with fail
  obtain ⟨v0, hv0⟩ : ∃ x : World, x = (((w.alloc (.cells #[.int .i64 i0, .int .i64 t0, .slice A n c, .slice B m d, .int .i64 l0, .int .i64 l1, .int .i64 l2] 37)).alloc (.cells #[.int .i64 ex, .int .i64 et, .int .i64 ec, .int .i64 es, .int .i64 1, .int .i64 ea, .int .i64 eb, .int .i64 eg, .int .i64 eh] 43)).alloc (.cells #[.int .i64 0, .int .i64 0, .slice none 0 0, .slice none 0 0, .int .i64 0, .int .i64 0, .int .i64 0] 37)) := ⟨_, rfl⟩
  rw [← hv0]
  have f0 : Below w.heap.size w v0 := by rw [hv0]; (repeat' (first | (with_reducible exact Below.refl _ _) | (with_reducible assumption) | (with_reducible refine Below.alloc ?_ ?_ _) | (with_reducible refine Below.drew ?_) | (with_reducible refine Below.setCell ?_ ?_ _) | (with_reducible refine bstep (by assumption) ?_ ?_) | (with_reducible exact Nat.le_refl _) | omega | (simp [*]; done) | (simp [*]; omega)))
  have z0 : w.heap.size + 3 ≤ v0.heap.size := by rw [hv0]; simp [size_set]
  have HP_0 := Lib.hid (HP.out.below f0)
  have HP_lt := Lib.hid (fun hn => HP.out.lt hn)
  have HQ_0 := Lib.hid (HQ.out.below f0)
  have HQ_lt := Lib.hid (fun hn => HQ.out.lt hn)
  have Ha_0 : Hid (Blk v0 w.heap.size 37 #[.int .i64 i0, .int .i64 t0, .slice A n c, .slice B m d, .int .i64 l0, .int .i64 l1, .int .i64 l2]) := by rw [hv0]; exact ((Blk.new_at _ _ _ _ (by simp)).alloc _).alloc _
  have Hb_0 : Hid (Blk v0 (w.heap.size + 1) 43 #[.int .i64 ex, .int .i64 et, .int .i64 ec, .int .i64 es, .int .i64 1, .int .i64 ea, .int .i64 eb, .int .i64 eg, .int .i64 eh]) := by rw [hv0]; exact (Blk.new_at _ _ _ _ (by simp)).alloc _
  have Hr_0 : Hid (Blk v0 (w.heap.size + 1 + 1) 37 #[.int .i64 0, .int .i64 0, .slice none 0 0, .slice none 0 0, .int .i64 0, .int .i64 0, .int .i64 0]) := by rw [hv0]; exact Blk.new_at _ _ _ _ (by simp)
  clear hv0
  generalize hg2 : w.heap.size + 1 + 1 = g2 at *
  generalize hg1 : w.heap.size + 1 = g1 at *
  have lg1 : w.heap.size < g1 := by omega
  have lg2 : g1 < g2 := by omega
  have lgz : g2 < v0.heap.size := by omega
  have nq1x0 : ¬ g1 = w.heap.size := by omega
  have nq0x1 : ¬ w.heap.size = g1 := by omega
  have nq2x0 : ¬ g2 = w.heap.size := by omega
  have nq0x2 : ¬ w.heap.size = g2 := by omega
  have nq2x1 : ¬ g2 = g1 := by omega
  have nq1x2 : ¬ g1 = g2 := by omega
  clear hg1 hg2
  have lt_a := Ha_0.out.lt
  have r_a0 : v0.cell? ⟨w.heap.size, 0, none⟩ = some (.int .i64 i0) := Ha_0.out.cell 0
  have r_a1 : v0.cell? ⟨w.heap.size, 1, none⟩ = some (.int .i64 t0) := Ha_0.out.cell 1
  have r_a2 : v0.cell? ⟨w.heap.size, 2, none⟩ = some (.slice A n c) := Ha_0.out.cell 2
  have r_a3 : v0.cell? ⟨w.heap.size, 3, none⟩ = some (.slice B m d) := Ha_0.out.cell 3
  have r_a4 : v0.cell? ⟨w.heap.size, 4, none⟩ = some (.int .i64 l0) := Ha_0.out.cell 4
  have r_a5 : v0.cell? ⟨w.heap.size, 5, none⟩ = some (.int .i64 l1) := Ha_0.out.cell 5
  have r_a6 : v0.cell? ⟨w.heap.size, 6, none⟩ = some (.int .i64 l2) := Ha_0.out.cell 6
  have lt_b := Hb_0.out.lt
  have r_b0 : v0.cell? ⟨g1, 0, none⟩ = some (.int .i64 ex) := Hb_0.out.cell 0
  have r_b1 : v0.cell? ⟨g1, 1, none⟩ = some (.int .i64 et) := Hb_0.out.cell 1
  have r_b2 : v0.cell? ⟨g1, 2, none⟩ = some (.int .i64 ec) := Hb_0.out.cell 2
  have r_b3 : v0.cell? ⟨g1, 3, none⟩ = some (.int .i64 es) := Hb_0.out.cell 3
  have r_b4 : v0.cell? ⟨g1, 4, none⟩ = some (.int .i64 1) := Hb_0.out.cell 4
  have r_b5 : v0.cell? ⟨g1, 5, none⟩ = some (.int .i64 ea) := Hb_0.out.cell 5
  have r_b6 : v0.cell? ⟨g1, 6, none⟩ = some (.int .i64 eb) := Hb_0.out.cell 6
  have r_b7 : v0.cell? ⟨g1, 7, none⟩ = some (.int .i64 eg) := Hb_0.out.cell 7
  have r_b8 : v0.cell? ⟨g1, 8, none⟩ = some (.int .i64 eh) := Hb_0.out.cell 8
  go_cut [6, 7] (fun pv ov wx => ∃ (g : Nat) (A1 : Option Addr) (n1 c1 : Nat) (B1 : Option Addr) (m1 d1 : Nat) (x0 x1 x2 : Int), pv = .pointer (some ⟨g, 0, none⟩) ∧ ov = .bool true ∧ g2 < g ∧ v0.heap.size ≤ g ∧ Hid (Blk wx g 37 #[.int .i64 i0, .int .i64 t0, .slice A1 n1 c1, .slice B1 m1 d1, .int .i64 x0, .int .i64 x1, .int .i64 x2]) ∧ Hid (Below v0.heap.size v0 wx) ∧ Hid (x0 = h2 ∧ x1 = e2 ∧ x2 = u2) ∧ Hid (Sl wx 2 A1 n1 (PR p2)) ∧ Hid (p2.length = n1) ∧ Hid (A1 = none → n1 = 0 ∧ c1 = 0) ∧ Hid (Sl wx 5 B1 m1 (JB q2)) ∧ Hid (q2.length = m1) ∧ Hid (B1 = none → m1 = 0 ∧ d1 = 0) ∧ Hid (0 < n1 → ∀ a, A1 = some a → a.block ≠ g) ∧ Hid (0 < m1 → ∀ a, B1 = some a → a.block ≠ g))
  case first =>
    have hnm : n ≤ maxLen := by unfold maxLen; omega
    have hmm : m ≤ maxLen := by unfold maxLen; omega
    have hS0 : ∀ b o, b < v0.heap.size → v0.cell? ⟨b, o, none⟩ = v0.cell? ⟨b, o, none⟩ := fun b o hb => rfl
    have ix : ∀ wz : World, (Instr.index 116 (.agg #[.nilFunc, .func (.func 97) #[] #[], .func (.func 99) #[] #[], .func (.func 101) #[] #[], .func (.func 103) #[] #[], .func (.func 107) #[] #[]]) (.int .i64 1)).run Tryz.prog wz = .ok (.func (.func 97) #[] #[]) wz := fun _ => by kernel_rfl
    go_region_held_law (fun w' => ∀ b o, b < v0.heap.size → w'.cell? ⟨b, o, none⟩ = v0.cell? ⟨b, o, none⟩) (repeat' (first | with_reducible assumption | with_reducible exact Nat.le_refl _ | with_reducible exact hS0 | with_reducible refine hl_drew ?_ | with_reducible refine hl_alloc ?_ ?_ _ | with_reducible refine hl_set7 ?_ ?_ _ _ _ _ _ _ _)) (first | (go_at_call 82; refine (effects_any _).mono ?_; rintro e u1 ⟨rfl, b1⟩; (first | (have KB : Blk u1 v0.heap.size 37 #[.int .i64 0, .int .i64 0, .slice none 0 0, .slice none 0 0, .int .i64 0, .int .i64 0, .int .i64 0] := by with_reducible exact t_below2 b1 (Blk.new_at _ _ _ _ rfl)) | (have KB : Blk u1 v0.heap.size 37 #[.int .i64 0, .int .i64 0, .slice none 0 0, .slice none 0 0, .int .i64 0, .int .i64 0, .int .i64 0] := by with_reducible exact t_below2 b1 (Blk.drew (Blk.new_at _ _ _ _ rfl))) | (have KB : Blk u1 v0.heap.size 37 #[.int .i64 0, .int .i64 0, .slice none 0 0, .slice none 0 0, .int .i64 0, .int .i64 0, .int .i64 0] := by with_reducible exact t_below2 b1 (Blk.new_at _ _ _ _ (t_drew_size _))) | (replace KB := t_below2 b1 KB) | (replace KB := t_below2 b1 (Blk.drew KB)) | skip); have E1 : Below v0.heap.size v0 u1 := (by first | with_reducible exact b1 | with_reducible exact tb_dr b1 | with_reducible exact tb_al b1 | with_reducible exact tb_da b1 | with_reducible exact tb_ad b1); have H1 := E1; have y1 := H1.size; have hS1 : ∀ b o, b < v0.heap.size → u1.cell? ⟨b, o, none⟩ = v0.cell? ⟨b, o, none⟩ := fun b o hb => H1.cell (p := ⟨b, o, none⟩) hb; have HPu := Lib.hid (HP_0.out.below E1); have HQu := Lib.hid (HQ_0.out.below E1)) | (go_at_call 97; refine (eff1_R A n c B m d i0 t0 l0 l1 l2 pl ql ex et ec es ea eb eg eh _ (by first | with_reducible exact HPu.out | with_reducible exact Sl.alloc HPu.out _) (by first | with_reducible exact HQu.out | with_reducible exact Sl.alloc HQu.out _) hL.out hR.out hnm hmm HA.out HB.out w.heap.size HP_lt.out HQ_lt.out p2 q2 h2 e2 u2 true hE).mono ?_; rintro e u2_ ⟨A1, n1, c1, B1, m1, d1, x0, x1, x2, rfl, b2, hx⟩; obtain ⟨hx0, hx1, hx2, hP1, hl1, hA1, hQ1, hr1, hB1, hL1, hL2⟩ := hx rfl; (first | (have KB : Blk u2_ u1.heap.size 37 #[.int .i64 0, .int .i64 0, .slice none 0 0, .slice none 0 0, .int .i64 0, .int .i64 0, .int .i64 0] := by with_reducible exact t_below2 b2 (Blk.new_at _ _ _ _ rfl)) | (have KB : Blk u2_ u1.heap.size 37 #[.int .i64 0, .int .i64 0, .slice none 0 0, .slice none 0 0, .int .i64 0, .int .i64 0, .int .i64 0] := by with_reducible exact t_below2 b2 (Blk.drew (Blk.new_at _ _ _ _ rfl))) | (have KB : Blk u2_ u1.heap.size 37 #[.int .i64 0, .int .i64 0, .slice none 0 0, .slice none 0 0, .int .i64 0, .int .i64 0, .int .i64 0] := by with_reducible exact t_below2 b2 (Blk.new_at _ _ _ _ (t_drew_size _))) | (replace KB := t_below2 b2 KB) | (replace KB := t_below2 b2 (Blk.drew KB)) | skip); have E2 : Below u1.heap.size u1 u2_ := (by first | with_reducible exact b2 | with_reducible exact tb_dr b2 | with_reducible exact tb_al b2 | with_reducible exact tb_da b2 | with_reducible exact tb_ad b2); have H2 := bthen H1 E2; have y2 := H2.size; have hS2 : ∀ b o, b < v0.heap.size → u2_.cell? ⟨b, o, none⟩ = v0.cell? ⟨b, o, none⟩ := fun b o hb => H2.cell (p := ⟨b, o, none⟩) hb; (try (have kb0 := KB.cell 0)); (try (have kf0 := KB.frozen 0)); (try (have kb1 := KB.cell 1)); (try (have kf1 := KB.frozen 1)); (try (have kb2 := KB.cell 2)); (try (have kf2 := KB.frozen 2)); (try (have kb3 := KB.cell 3)); (try (have kf3 := KB.frozen 3)); (try (have kb4 := KB.cell 4)); (try (have kf4 := KB.frozen 4)); (try (have kb5 := KB.cell 5)); (try (have kf5 := KB.frozen 5)); (try (have kb6 := KB.cell 6)); (try (have kf6 := KB.frozen 6)); (try (have kbl := KB.lt))))
    all_goals
      have s1 := b1.size
      have s2 := b2.size
      (try simp only [t_size_alloc, ← t_drew_size] at s1)
      (try simp only [t_size_alloc, ← t_drew_size] at s2)
      go_wp2_with fail
      go_meet
      first
        | (with_reducible refine ⟨u2_.heap.size, A1, n1, c1, B1, m1, d1, h2, e2, u2, rfl, rfl, ?_, ?_, ?_, ?_, ?_, ?_, ?_, ?_, ?_, ?_, ?_, ?_, ?_⟩
           · omega
           · omega
           · exact Lib.hid (Blk.new_at _ _ _ _ rfl)
           · exact Lib.hid (H2.alloc y2 _)
           · exact Lib.hid ⟨rfl, rfl, rfl⟩
           · exact Lib.hid (hP1.alloc _)
           · exact Lib.hid hl1
           · exact Lib.hid hA1
           · exact Lib.hid (hQ1.alloc _)
           · exact Lib.hid hr1
           · exact Lib.hid hB1
           · exact (Lib.hid (fun h0 a ha => by have hA := (hP1).lt h0 a ha; have hB := hL1 h0 a ha; have hC := lgz; (try simp only [t_size_alloc] at hB); omega))
           · exact (Lib.hid (fun h0 a ha => by have hA := (hQ1).lt h0 a ha; have hB := hL2 h0 a ha; have hC := lgz; (try simp only [t_size_alloc] at hB); omega)))
        | (with_reducible refine ⟨u1.heap.size, A1, n1, c1, B1, m1, d1, h2, e2, u2, rfl, rfl, ?_, ?_, ?_, ?_, ?_, ?_, ?_, ?_, ?_, ?_, ?_, ?_, ?_⟩
           · omega
           · omega
           · exact Lib.hid (((((((KB.set_ 0 _).set_ 1 _).set_ 2 _).set_ 3 _).set_ 4 _).set_ 5 _).set_ 6 _)
           · exact Lib.hid (below_far7 H2 (by omega) _ _ _ _ _ _ _)
           · exact Lib.hid ⟨rfl, rfl, rfl⟩
           · exact Lib.hid (sl_far7 hP1 (fun h0 a ha => by have hA := (hP1).lt h0 a ha; have hB := hL1 h0 a ha; have hC := lgz; (try simp only [t_size_alloc] at hB); omega) _ _ _ _ _ _ _)
           · exact Lib.hid hl1
           · exact Lib.hid hA1
           · exact Lib.hid (sl_far7 hQ1 (fun h0 a ha => by have hA := (hQ1).lt h0 a ha; have hB := hL2 h0 a ha; have hC := lgz; (try simp only [t_size_alloc] at hB); omega) _ _ _ _ _ _ _)
           · exact Lib.hid hr1
           · exact Lib.hid hB1
           · exact (Lib.hid (fun h0 a ha => by have hA := (hP1).lt h0 a ha; have hB := hL1 h0 a ha; have hC := lgz; (try simp only [t_size_alloc] at hB); omega))
           · exact (Lib.hid (fun h0 a ha => by have hA := (hQ1).lt h0 a ha; have hB := hL2 h0 a ha; have hC := lgz; (try simp only [t_size_alloc] at hB); omega)))
        | (with_reducible refine ⟨v0.heap.size, A1, n1, c1, B1, m1, d1, h2, e2, u2, rfl, rfl, ?_, ?_, ?_, ?_, ?_, ?_, ?_, ?_, ?_, ?_, ?_, ?_, ?_⟩
           · omega
           · omega
           · exact Lib.hid (((((((KB.set_ 0 _).set_ 1 _).set_ 2 _).set_ 3 _).set_ 4 _).set_ 5 _).set_ 6 _)
           · exact Lib.hid (below_far7 H2 (by omega) _ _ _ _ _ _ _)
           · exact Lib.hid ⟨rfl, rfl, rfl⟩
           · exact Lib.hid (sl_far7 hP1 (fun h0 a ha => by have hA := (hP1).lt h0 a ha; have hB := hL1 h0 a ha; have hC := lgz; (try simp only [t_size_alloc] at hB); omega) _ _ _ _ _ _ _)
           · exact Lib.hid hl1
           · exact Lib.hid hA1
           · exact Lib.hid (sl_far7 hQ1 (fun h0 a ha => by have hA := (hQ1).lt h0 a ha; have hB := hL2 h0 a ha; have hC := lgz; (try simp only [t_size_alloc] at hB); omega) _ _ _ _ _ _ _)
           · exact Lib.hid hr1
           · exact Lib.hid hB1
           · exact (Lib.hid (fun h0 a ha => by have hA := (hP1).lt h0 a ha; have hB := hL1 h0 a ha; have hC := lgz; (try simp only [t_size_alloc] at hB); omega))
           · exact (Lib.hid (fun h0 a ha => by have hA := (hQ1).lt h0 a ha; have hB := hL2 h0 a ha; have hC := lgz; (try simp only [t_size_alloc] at hB); omega)))
  case rest =>
    obtain ⟨g, A1, n1, c1, B1, m1, d1, x0, x1, x2, rfl, rfl, hg2, hgz, KX, E1, HX, HP1, HL1, HA1, HQ1, HR1, HB1, HN1, HN2⟩ := hcut
    rename World => v1
    obtain ⟨hx0, hx1, hx2⟩ := HX.out
    subst hx0 hx1 hx2
    clear HX
    clear lt_a r_a0 r_a1 r_a2 r_a3 r_a4 r_a5 r_a6 lt_b r_b0 r_b1 r_b2 r_b3 r_b4 r_b5 r_b6 r_b7 r_b8
    have F1 := Lib.hid (bthen f0 E1.out)
    have y1 := E1.out.size
    have Kb := Lib.hid (Hb_0.out.below E1.out)
    have Kr := Lib.hid (Hr_0.out.below E1.out)
    clear Ha_0 Hb_0 Hr_0 HP_0 HQ_0 HP_lt HQ_lt HP HQ HA HB hL hR
    go_upto_region 4 with fail
    have lt_b := Kb.out.lt
    have r_b0 : v1.cell? ⟨g1, 0, none⟩ = some (.int .i64 ex) := Kb.out.cell 0
    have r_b1 : v1.cell? ⟨g1, 1, none⟩ = some (.int .i64 et) := Kb.out.cell 1
    have r_b2 : v1.cell? ⟨g1, 2, none⟩ = some (.int .i64 ec) := Kb.out.cell 2
    have r_b3 : v1.cell? ⟨g1, 3, none⟩ = some (.int .i64 es) := Kb.out.cell 3
    have r_b4 : v1.cell? ⟨g1, 4, none⟩ = some (.int .i64 1) := Kb.out.cell 4
    have r_b5 : v1.cell? ⟨g1, 5, none⟩ = some (.int .i64 ea) := Kb.out.cell 5
    have r_b6 : v1.cell? ⟨g1, 6, none⟩ = some (.int .i64 eb) := Kb.out.cell 6
    have r_b7 : v1.cell? ⟨g1, 7, none⟩ = some (.int .i64 eg) := Kb.out.cell 7
    have r_b8 : v1.cell? ⟨g1, 8, none⟩ = some (.int .i64 eh) := Kb.out.cell 8
    have lt_x := KX.out.lt
    have r_x0 : v1.cell? ⟨g, 0, none⟩ = some (.int .i64 i0) := KX.out.cell 0
    have z_x0 := KX.out.frozen 0
    have r_x1 : v1.cell? ⟨g, 1, none⟩ = some (.int .i64 t0) := KX.out.cell 1
    have z_x1 := KX.out.frozen 1
    have r_x2 : v1.cell? ⟨g, 2, none⟩ = some (.slice A1 n1 c1) := KX.out.cell 2
    have z_x2 := KX.out.frozen 2
    have r_x3 : v1.cell? ⟨g, 3, none⟩ = some (.slice B1 m1 d1) := KX.out.cell 3
    have z_x3 := KX.out.frozen 3
    have r_x4 : v1.cell? ⟨g, 4, none⟩ = some (.int .i64 x0) := KX.out.cell 4
    have z_x4 := KX.out.frozen 4
    have r_x5 : v1.cell? ⟨g, 5, none⟩ = some (.int .i64 x1) := KX.out.cell 5
    have z_x5 := KX.out.frozen 5
    have r_x6 : v1.cell? ⟨g, 6, none⟩ = some (.int .i64 x2) := KX.out.cell 6
    have z_x6 := KX.out.frozen 6
    have ngb : ¬ g = g1 := by omega
    have nbg : ¬ g1 = g := by omega
    go_cut [] (fun wx => Hid (Blk wx g 37 #[.int .i64 ex, .int .i64 et, .slice A1 n1 c1, .slice B1 m1 d1, .int .i64 x0, .int .i64 x1, .int .i64 x2]) ∧ Hid (Below w.heap.size w wx) ∧ Hid (Blk wx g1 43 #[.int .i64 ex, .int .i64 et, .int .i64 ec, .int .i64 es, .int .i64 1, .int .i64 ea, .int .i64 eb, .int .i64 eg, .int .i64 eh]) ∧ Hid (Blk wx g2 37 #[.int .i64 0, .int .i64 0, .slice none 0 0, .slice none 0 0, .int .i64 0, .int .i64 0, .int .i64 0]) ∧ Hid (Sl wx 2 A1 n1 (PR p2)) ∧ Hid (Sl wx 5 B1 m1 (JB q2)))
    case first =>
      have hS0 : ∀ b o, b < g → v1.cell? ⟨b, o, none⟩ = v1.cell? ⟨b, o, none⟩ := fun b o hb => rfl
      have lbg : g1 < g := by omega
      go_region_held_law (fun w' => ∀ b o, b < g → w'.cell? ⟨b, o, none⟩ = v1.cell? ⟨b, o, none⟩) (repeat' (first | with_reducible assumption | with_reducible exact Nat.le_refl _ | with_reducible exact hS0 | with_reducible refine hl_drew ?_ | with_reducible refine hl_set ?_ ?_ _ _)) (fail)
      all_goals
        go_wp2_with fail
        go_meet
        first
          | exact ⟨Lib.hid (((KX.out.drew).set_ 0 _).set_ 1 _), Lib.hid (((F1.out.drew).setCell (p := ⟨g, 0, none⟩) (by show w.heap.size ≤ g; omega) _).setCell (p := ⟨g, 1, none⟩) (by show w.heap.size ≤ g; omega) _), Lib.hid (((Kb.out.drew).far (p := ⟨g, 0, none⟩) (show g1 ≠ g by omega) _).far (p := ⟨g, 1, none⟩) (show g1 ≠ g by omega) _), Lib.hid (((Kr.out.drew).far (p := ⟨g, 0, none⟩) (show g2 ≠ g by omega) _).far (p := ⟨g, 1, none⟩) (show g2 ≠ g by omega) _), Lib.hid (((HP1.out.drew).far (p := ⟨g, 0, none⟩) (fun h0 a ha => HN1.out h0 a ha) _).far (p := ⟨g, 1, none⟩) (fun h0 a ha => HN1.out h0 a ha) _), Lib.hid (((HQ1.out.drew).far (p := ⟨g, 0, none⟩) (fun h0 a ha => HN2.out h0 a ha) _).far (p := ⟨g, 1, none⟩) (fun h0 a ha => HN2.out h0 a ha) _)⟩
          | exact ⟨Lib.hid (((KX.out.drew).set_ 1 _).set_ 0 _), Lib.hid (((F1.out.drew).setCell (p := ⟨g, 1, none⟩) (by show w.heap.size ≤ g; omega) _).setCell (p := ⟨g, 0, none⟩) (by show w.heap.size ≤ g; omega) _), Lib.hid (((Kb.out.drew).far (p := ⟨g, 1, none⟩) (show g1 ≠ g by omega) _).far (p := ⟨g, 0, none⟩) (show g1 ≠ g by omega) _), Lib.hid (((Kr.out.drew).far (p := ⟨g, 1, none⟩) (show g2 ≠ g by omega) _).far (p := ⟨g, 0, none⟩) (show g2 ≠ g by omega) _), Lib.hid (((HP1.out.drew).far (p := ⟨g, 1, none⟩) (fun h0 a ha => HN1.out h0 a ha) _).far (p := ⟨g, 0, none⟩) (fun h0 a ha => HN1.out h0 a ha) _), Lib.hid (((HQ1.out.drew).far (p := ⟨g, 1, none⟩) (fun h0 a ha => HN2.out h0 a ha) _).far (p := ⟨g, 0, none⟩) (fun h0 a ha => HN2.out h0 a ha) _)⟩
    case rest =>
      clear lt_b r_b0 r_b1 r_b2 r_b3 r_b4 r_b5 r_b6 r_b7 r_b8
      clear lt_x r_x0 z_x0 r_x1 z_x1 r_x2 z_x2 r_x3 z_x3 r_x4 z_x4 r_x5 z_x5 r_x6 z_x6
      obtain ⟨KX2, F2, Kb2, Kr2, HP2, HQ2⟩ := hcut
      rename World => v2
      clear KX
      clear Kb Kr HP1 HQ1
      go_upto_region 7 with fail
      have ngr : ¬ g = g2 := by omega
      have nbr : ¬ g1 = g2 := by omega
      have lt_b := Kb2.out.lt
      have r_b0 : v2.cell? ⟨g1, 0, none⟩ = some (.int .i64 ex) := Kb2.out.cell 0
      have r_b1 : v2.cell? ⟨g1, 1, none⟩ = some (.int .i64 et) := Kb2.out.cell 1
      have r_b2 : v2.cell? ⟨g1, 2, none⟩ = some (.int .i64 ec) := Kb2.out.cell 2
      have r_b3 : v2.cell? ⟨g1, 3, none⟩ = some (.int .i64 es) := Kb2.out.cell 3
      have r_b4 : v2.cell? ⟨g1, 4, none⟩ = some (.int .i64 1) := Kb2.out.cell 4
      have r_b5 : v2.cell? ⟨g1, 5, none⟩ = some (.int .i64 ea) := Kb2.out.cell 5
      have r_b6 : v2.cell? ⟨g1, 6, none⟩ = some (.int .i64 eb) := Kb2.out.cell 6
      have r_b7 : v2.cell? ⟨g1, 7, none⟩ = some (.int .i64 eg) := Kb2.out.cell 7
      have r_b8 : v2.cell? ⟨g1, 8, none⟩ = some (.int .i64 eh) := Kb2.out.cell 8
      have lt_x := KX2.out.lt
      have r_x0 : v2.cell? ⟨g, 0, none⟩ = some (.int .i64 ex) := KX2.out.cell 0
      have z_x0 := KX2.out.frozen 0
      have r_x1 : v2.cell? ⟨g, 1, none⟩ = some (.int .i64 et) := KX2.out.cell 1
      have z_x1 := KX2.out.frozen 1
      have r_x2 : v2.cell? ⟨g, 2, none⟩ = some (.slice A1 n1 c1) := KX2.out.cell 2
      have z_x2 := KX2.out.frozen 2
      have r_x3 : v2.cell? ⟨g, 3, none⟩ = some (.slice B1 m1 d1) := KX2.out.cell 3
      have z_x3 := KX2.out.frozen 3
      have r_x4 : v2.cell? ⟨g, 4, none⟩ = some (.int .i64 x0) := KX2.out.cell 4
      have z_x4 := KX2.out.frozen 4
      have r_x5 : v2.cell? ⟨g, 5, none⟩ = some (.int .i64 x1) := KX2.out.cell 5
      have z_x5 := KX2.out.frozen 5
      have r_x6 : v2.cell? ⟨g, 6, none⟩ = some (.int .i64 x2) := KX2.out.cell 6
      have z_x6 := KX2.out.frozen 6
      have lt_r := Kr2.out.lt
      have r_r0 : v2.cell? ⟨g2, 0, none⟩ = some (.int .i64 0) := Kr2.out.cell 0
      have z_r0 := Kr2.out.frozen 0
      have r_r1 : v2.cell? ⟨g2, 1, none⟩ = some (.int .i64 0) := Kr2.out.cell 1
      have z_r1 := Kr2.out.frozen 1
      have r_r2 : v2.cell? ⟨g2, 2, none⟩ = some (.slice none 0 0) := Kr2.out.cell 2
      have z_r2 := Kr2.out.frozen 2
      have r_r3 : v2.cell? ⟨g2, 3, none⟩ = some (.slice none 0 0) := Kr2.out.cell 3
      have z_r3 := Kr2.out.frozen 3
      have r_r4 : v2.cell? ⟨g2, 4, none⟩ = some (.int .i64 0) := Kr2.out.cell 4
      have z_r4 := Kr2.out.frozen 4
      have r_r5 : v2.cell? ⟨g2, 5, none⟩ = some (.int .i64 0) := Kr2.out.cell 5
      have z_r5 := Kr2.out.frozen 5
      have r_r6 : v2.cell? ⟨g2, 6, none⟩ = some (.int .i64 0) := Kr2.out.cell 6
      have z_r6 := Kr2.out.frozen 6
      have hS0 : ∀ b o, b < v2.heap.size → b ≠ g2 → v2.cell? ⟨b, o, none⟩ = v2.cell? ⟨b, o, none⟩ := fun b o hb hk => rfl
      go_region_held_law (fun w' => ∀ b o, b < v2.heap.size → b ≠ g2 → w'.cell? ⟨b, o, none⟩ = v2.cell? ⟨b, o, none⟩) (repeat' (first | with_reducible assumption | with_reducible exact hS0 | with_reducible refine hn_drew ?_ | with_reducible refine hn_set7 ?_ _ _ _ _ _ _ _)) (first | (go_at_call 42; refine (copyState_any A1 n1 c1 B1 m1 d1 ex et x0 x1 x2 p2 q2 _ (by first | with_reducible exact HP2.out | with_reducible exact Sl.drew HP2.out) (by first | with_reducible exact HQ2.out | with_reducible exact Sl.drew HQ2.out) HL1.out HR1.out (by have := HL1.out; omega) (by have := HR1.out; omega) HA1.out HB1.out).mono ?_; rintro e v3 ⟨A5, c5, B5, d5, rfl, R5, R6, hap, b3⟩; have E3 : Below v2.heap.size v2 v3 := (by first | with_reducible exact b3 | with_reducible exact tb_dr b3); have hS3 : ∀ b o, b < v2.heap.size → b ≠ g2 → v3.cell? ⟨b, o, none⟩ = v2.cell? ⟨b, o, none⟩ := fun b o hb hk => E3.cell (p := ⟨b, o, none⟩) hb; have Kr3 := Kr2.out.below E3; have yb0 := Kr3.cell 0; have yf0 := Kr3.frozen 0; have yb1 := Kr3.cell 1; have yf1 := Kr3.frozen 1; have yb2 := Kr3.cell 2; have yf2 := Kr3.frozen 2; have yb3 := Kr3.cell 3; have yf3 := Kr3.frozen 3; have yb4 := Kr3.cell 4; have yf4 := Kr3.frozen 4; have yb5 := Kr3.cell 5; have yf5 := Kr3.frozen 5; have yb6 := Kr3.cell 6; have yf6 := Kr3.frozen 6; have yl := Kr3.lt))
      all_goals
        go_wp21
        refine bodyPost_ret (v := .tuple #[.agg #[.int .i64 ex, .int .i64 et, .slice A5 n1 c5, .slice B5 m1 d5, .int .i64 x0, .int .i64 x1, .int .i64 x2], .int .i64 1]) (by simp [results, Tryz.results43, go_sem, *]) rfl ?_
        have h5 := R5.mono (show w.heap.size ≤ _ from F2.out.size)
        have h6 := R6.mono (show w.heap.size ≤ _ from F2.out.size)
        have n5 : ∀ a, A5 = some a → a.block ≠ g2 := fun a ha => by have := R5.ge a ha; (try simp at this); omega
        have n6 : ∀ a, B5 = some a → a.block ≠ g2 := fun a ha => by have := R6.ge a ha; (try simp at this); omega
        exact RetStateV.mk HL1.out HR1.out (row_far7 h5 n5 _ _ _ _ _ _ _) (row_far7 h6 n6 _ _ _ _ _ _ _) hap (below_far7 (bthen F2.out E3) (show w.heap.size ≤ g2 by omega) _ _ _ _ _ _ _)
end Go.Proofs.YtokklkmibjpjnaaGreat
namespace Go.Proofs.YtokklkmibjpjnaaGreat
set_option linter.unusedSimpArgs false
set_option linter.unusedVariables false
attribute [local go_sem] n_lt2 n_lt3 n_lt4 n_le2 n_le3
open Go.RowKit
attribute [local go_sem] Ext.cell Ext.frozen
set_option maxRecDepth 100000 in
set_option maxHeartbeats 8000000 in
theorem applied_yes2 (A : Option Addr) (n c : Nat) (B : Option Addr) (m d : Nat) (i0 t0 l0 l1 l2 : Int) (pl : List Pr) (ql : List Jb) (ex et ec es ea eb eg eh : Int) (w : World) (hP : Sl w 2 A n (PR pl)) (hQ : Sl w 5 B m (JB ql)) (hl : pl.length = n) (hr : ql.length = m) (hn : n ≤ 1000) (hm : m ≤ 1000) (hA : A = none → n = 0 ∧ c = 0) (hB : B = none → m = 0 ∧ d = 0) (p2 : List Pr) (q2 : List Jb) (h2 e2 u2 : Int) (hp2 : p2.length ≤ 1000) (hq2 : q2.length ≤ 1000) (hE : Hid (effE l0 l1 l2 pl ql ex et ec es 2 ea eb eg eh = (⟨p2, q2, h2, e2, u2⟩, true))) :
    Calls Tryz.prog 43 #[.agg #[.int .i64 i0, .int .i64 t0, .slice A n c, .slice B m d, .int .i64 l0, .int .i64 l1, .int .i64 l2], .agg #[.int .i64 ex, .int .i64 et, .int .i64 ec, .int .i64 es, .int .i64 2, .int .i64 ea, .int .i64 eb, .int .i64 eg, .int .i64 eh]] w (RetStateV w ex et h2 e2 u2 p2.length (PR p2) q2.length (JB q2) (.int .i64 2)) := by
  have HP := Lib.hid hP
  have HQ := Lib.hid hQ
  have HA := Lib.hid hA
  have HB := Lib.hid hB
  have hL := Lib.hid hl
  have hR := Lib.hid hr
  clear hP hQ hA hB hl hr
  go_enter Tryz.func43, Tryz.ntmps43
  go_upto_region 1 with fail
  obtain ⟨v0, hv0⟩ : ∃ x : World, x = (((w.alloc (.cells #[.int .i64 i0, .int .i64 t0, .slice A n c, .slice B m d, .int .i64 l0, .int .i64 l1, .int .i64 l2] 37)).alloc (.cells #[.int .i64 ex, .int .i64 et, .int .i64 ec, .int .i64 es, .int .i64 2, .int .i64 ea, .int .i64 eb, .int .i64 eg, .int .i64 eh] 43)).alloc (.cells #[.int .i64 0, .int .i64 0, .slice none 0 0, .slice none 0 0, .int .i64 0, .int .i64 0, .int .i64 0] 37)) := ⟨_, rfl⟩
  rw [← hv0]
  have f0 : Below w.heap.size w v0 := by rw [hv0]; (repeat' (first | (with_reducible exact Below.refl _ _) | (with_reducible assumption) | (with_reducible refine Below.alloc ?_ ?_ _) | (with_reducible refine Below.drew ?_) | (with_reducible refine Below.setCell ?_ ?_ _) | (with_reducible refine bstep (by assumption) ?_ ?_) | (with_reducible exact Nat.le_refl _) | omega | (simp [*]; done) | (simp [*]; omega)))
  have z0 : w.heap.size + 3 ≤ v0.heap.size := by rw [hv0]; simp [size_set]
  have HP_0 := Lib.hid (HP.out.below f0)
  have HP_lt := Lib.hid (fun hn => HP.out.lt hn)
  have HQ_0 := Lib.hid (HQ.out.below f0)
  have HQ_lt := Lib.hid (fun hn => HQ.out.lt hn)
  have Ha_0 : Hid (Blk v0 w.heap.size 37 #[.int .i64 i0, .int .i64 t0, .slice A n c, .slice B m d, .int .i64 l0, .int .i64 l1, .int .i64 l2]) := by rw [hv0]; exact ((Blk.new_at _ _ _ _ (by simp)).alloc _).alloc _
  have Hb_0 : Hid (Blk v0 (w.heap.size + 1) 43 #[.int .i64 ex, .int .i64 et, .int .i64 ec, .int .i64 es, .int .i64 2, .int .i64 ea, .int .i64 eb, .int .i64 eg, .int .i64 eh]) := by rw [hv0]; exact (Blk.new_at _ _ _ _ (by simp)).alloc _
  have Hr_0 : Hid (Blk v0 (w.heap.size + 1 + 1) 37 #[.int .i64 0, .int .i64 0, .slice none 0 0, .slice none 0 0, .int .i64 0, .int .i64 0, .int .i64 0]) := by rw [hv0]; exact Blk.new_at _ _ _ _ (by simp)
  clear hv0
  generalize hg2 : w.heap.size + 1 + 1 = g2 at *
  generalize hg1 : w.heap.size + 1 = g1 at *
  have lg1 : w.heap.size < g1 := by omega
  have lg2 : g1 < g2 := by omega
  have lgz : g2 < v0.heap.size := by omega
  have nq1x0 : ¬ g1 = w.heap.size := by omega
  have nq0x1 : ¬ w.heap.size = g1 := by omega
  have nq2x0 : ¬ g2 = w.heap.size := by omega
  have nq0x2 : ¬ w.heap.size = g2 := by omega
  have nq2x1 : ¬ g2 = g1 := by omega
  have nq1x2 : ¬ g1 = g2 := by omega
  clear hg1 hg2
  have lt_a := Ha_0.out.lt
  have r_a0 : v0.cell? ⟨w.heap.size, 0, none⟩ = some (.int .i64 i0) := Ha_0.out.cell 0
  have r_a1 : v0.cell? ⟨w.heap.size, 1, none⟩ = some (.int .i64 t0) := Ha_0.out.cell 1
  have r_a2 : v0.cell? ⟨w.heap.size, 2, none⟩ = some (.slice A n c) := Ha_0.out.cell 2
  have r_a3 : v0.cell? ⟨w.heap.size, 3, none⟩ = some (.slice B m d) := Ha_0.out.cell 3
  have r_a4 : v0.cell? ⟨w.heap.size, 4, none⟩ = some (.int .i64 l0) := Ha_0.out.cell 4
  have r_a5 : v0.cell? ⟨w.heap.size, 5, none⟩ = some (.int .i64 l1) := Ha_0.out.cell 5
  have r_a6 : v0.cell? ⟨w.heap.size, 6, none⟩ = some (.int .i64 l2) := Ha_0.out.cell 6
  have lt_b := Hb_0.out.lt
  have r_b0 : v0.cell? ⟨g1, 0, none⟩ = some (.int .i64 ex) := Hb_0.out.cell 0
  have r_b1 : v0.cell? ⟨g1, 1, none⟩ = some (.int .i64 et) := Hb_0.out.cell 1
  have r_b2 : v0.cell? ⟨g1, 2, none⟩ = some (.int .i64 ec) := Hb_0.out.cell 2
  have r_b3 : v0.cell? ⟨g1, 3, none⟩ = some (.int .i64 es) := Hb_0.out.cell 3
  have r_b4 : v0.cell? ⟨g1, 4, none⟩ = some (.int .i64 2) := Hb_0.out.cell 4
  have r_b5 : v0.cell? ⟨g1, 5, none⟩ = some (.int .i64 ea) := Hb_0.out.cell 5
  have r_b6 : v0.cell? ⟨g1, 6, none⟩ = some (.int .i64 eb) := Hb_0.out.cell 6
  have r_b7 : v0.cell? ⟨g1, 7, none⟩ = some (.int .i64 eg) := Hb_0.out.cell 7
  have r_b8 : v0.cell? ⟨g1, 8, none⟩ = some (.int .i64 eh) := Hb_0.out.cell 8
  go_cut [6, 7] (fun pv ov wx => ∃ (g : Nat) (A1 : Option Addr) (n1 c1 : Nat) (B1 : Option Addr) (m1 d1 : Nat) (x0 x1 x2 : Int), pv = .pointer (some ⟨g, 0, none⟩) ∧ ov = .bool true ∧ g2 < g ∧ v0.heap.size ≤ g ∧ Hid (Blk wx g 37 #[.int .i64 i0, .int .i64 t0, .slice A1 n1 c1, .slice B1 m1 d1, .int .i64 x0, .int .i64 x1, .int .i64 x2]) ∧ Hid (Below v0.heap.size v0 wx) ∧ Hid (x0 = h2 ∧ x1 = e2 ∧ x2 = u2) ∧ Hid (Sl wx 2 A1 n1 (PR p2)) ∧ Hid (p2.length = n1) ∧ Hid (A1 = none → n1 = 0 ∧ c1 = 0) ∧ Hid (Sl wx 5 B1 m1 (JB q2)) ∧ Hid (q2.length = m1) ∧ Hid (B1 = none → m1 = 0 ∧ d1 = 0) ∧ Hid (0 < n1 → ∀ a, A1 = some a → a.block ≠ g) ∧ Hid (0 < m1 → ∀ a, B1 = some a → a.block ≠ g))
  case first =>
    have hnm : n ≤ maxLen := by unfold maxLen; omega
    have hmm : m ≤ maxLen := by unfold maxLen; omega
    have hS0 : ∀ b o, b < v0.heap.size → v0.cell? ⟨b, o, none⟩ = v0.cell? ⟨b, o, none⟩ := fun b o hb => rfl
    have ix : ∀ wz : World, (Instr.index 116 (.agg #[.nilFunc, .func (.func 97) #[] #[], .func (.func 99) #[] #[], .func (.func 101) #[] #[], .func (.func 103) #[] #[], .func (.func 107) #[] #[]]) (.int .i64 2)).run Tryz.prog wz = .ok (.func (.func 99) #[] #[]) wz := fun _ => by kernel_rfl
    go_region_held_law (fun w' => ∀ b o, b < v0.heap.size → w'.cell? ⟨b, o, none⟩ = v0.cell? ⟨b, o, none⟩) (repeat' (first | with_reducible assumption | with_reducible exact Nat.le_refl _ | with_reducible exact hS0 | with_reducible refine hl_drew ?_ | with_reducible refine hl_alloc ?_ ?_ _ | with_reducible refine hl_set7 ?_ ?_ _ _ _ _ _ _ _)) (first | (go_at_call 82; refine (effects_any _).mono ?_; rintro e u1 ⟨rfl, b1⟩; (first | (have KB : Blk u1 v0.heap.size 37 #[.int .i64 0, .int .i64 0, .slice none 0 0, .slice none 0 0, .int .i64 0, .int .i64 0, .int .i64 0] := by with_reducible exact t_below2 b1 (Blk.new_at _ _ _ _ rfl)) | (have KB : Blk u1 v0.heap.size 37 #[.int .i64 0, .int .i64 0, .slice none 0 0, .slice none 0 0, .int .i64 0, .int .i64 0, .int .i64 0] := by with_reducible exact t_below2 b1 (Blk.drew (Blk.new_at _ _ _ _ rfl))) | (have KB : Blk u1 v0.heap.size 37 #[.int .i64 0, .int .i64 0, .slice none 0 0, .slice none 0 0, .int .i64 0, .int .i64 0, .int .i64 0] := by with_reducible exact t_below2 b1 (Blk.new_at _ _ _ _ (t_drew_size _))) | (replace KB := t_below2 b1 KB) | (replace KB := t_below2 b1 (Blk.drew KB)) | skip); have E1 : Below v0.heap.size v0 u1 := (by first | with_reducible exact b1 | with_reducible exact tb_dr b1 | with_reducible exact tb_al b1 | with_reducible exact tb_da b1 | with_reducible exact tb_ad b1); have H1 := E1; have y1 := H1.size; have hS1 : ∀ b o, b < v0.heap.size → u1.cell? ⟨b, o, none⟩ = v0.cell? ⟨b, o, none⟩ := fun b o hb => H1.cell (p := ⟨b, o, none⟩) hb; have HPu := Lib.hid (HP_0.out.below E1); have HQu := Lib.hid (HQ_0.out.below E1)) | (go_at_call 99; refine (eff2_R A n c B m d i0 t0 l0 l1 l2 pl ql ex et ec es ea eb eg eh _ (by first | with_reducible exact HPu.out | with_reducible exact Sl.alloc HPu.out _) (by first | with_reducible exact HQu.out | with_reducible exact Sl.alloc HQu.out _) hL.out hR.out hnm hmm HA.out HB.out w.heap.size HP_lt.out HQ_lt.out p2 q2 h2 e2 u2 true hE).mono ?_; rintro e u2_ ⟨A1, n1, c1, B1, m1, d1, x0, x1, x2, rfl, b2, hx⟩; obtain ⟨hx0, hx1, hx2, hP1, hl1, hA1, hQ1, hr1, hB1, hL1, hL2⟩ := hx rfl; (first | (have KB : Blk u2_ u1.heap.size 37 #[.int .i64 0, .int .i64 0, .slice none 0 0, .slice none 0 0, .int .i64 0, .int .i64 0, .int .i64 0] := by with_reducible exact t_below2 b2 (Blk.new_at _ _ _ _ rfl)) | (have KB : Blk u2_ u1.heap.size 37 #[.int .i64 0, .int .i64 0, .slice none 0 0, .slice none 0 0, .int .i64 0, .int .i64 0, .int .i64 0] := by with_reducible exact t_below2 b2 (Blk.drew (Blk.new_at _ _ _ _ rfl))) | (have KB : Blk u2_ u1.heap.size 37 #[.int .i64 0, .int .i64 0, .slice none 0 0, .slice none 0 0, .int .i64 0, .int .i64 0, .int .i64 0] := by with_reducible exact t_below2 b2 (Blk.new_at _ _ _ _ (t_drew_size _))) | (replace KB := t_below2 b2 KB) | (replace KB := t_below2 b2 (Blk.drew KB)) | skip); have E2 : Below u1.heap.size u1 u2_ := (by first | with_reducible exact b2 | with_reducible exact tb_dr b2 | with_reducible exact tb_al b2 | with_reducible exact tb_da b2 | with_reducible exact tb_ad b2); have H2 := bthen H1 E2; have y2 := H2.size; have hS2 : ∀ b o, b < v0.heap.size → u2_.cell? ⟨b, o, none⟩ = v0.cell? ⟨b, o, none⟩ := fun b o hb => H2.cell (p := ⟨b, o, none⟩) hb; (try (have kb0 := KB.cell 0)); (try (have kf0 := KB.frozen 0)); (try (have kb1 := KB.cell 1)); (try (have kf1 := KB.frozen 1)); (try (have kb2 := KB.cell 2)); (try (have kf2 := KB.frozen 2)); (try (have kb3 := KB.cell 3)); (try (have kf3 := KB.frozen 3)); (try (have kb4 := KB.cell 4)); (try (have kf4 := KB.frozen 4)); (try (have kb5 := KB.cell 5)); (try (have kf5 := KB.frozen 5)); (try (have kb6 := KB.cell 6)); (try (have kf6 := KB.frozen 6)); (try (have kbl := KB.lt))))
    all_goals
      have s1 := b1.size
      have s2 := b2.size
      (try simp only [t_size_alloc, ← t_drew_size] at s1)
      (try simp only [t_size_alloc, ← t_drew_size] at s2)
      go_wp2_with fail
      go_meet
      first
        | (with_reducible refine ⟨u2_.heap.size, A1, n1, c1, B1, m1, d1, h2, e2, u2, rfl, rfl, ?_, ?_, ?_, ?_, ?_, ?_, ?_, ?_, ?_, ?_, ?_, ?_, ?_⟩
           · omega
           · omega
           · exact Lib.hid (Blk.new_at _ _ _ _ rfl)
           · exact Lib.hid (H2.alloc y2 _)
           · exact Lib.hid ⟨rfl, rfl, rfl⟩
           · exact Lib.hid (hP1.alloc _)
           · exact Lib.hid hl1
           · exact Lib.hid hA1
           · exact Lib.hid (hQ1.alloc _)
           · exact Lib.hid hr1
           · exact Lib.hid hB1
           · exact (Lib.hid (fun h0 a ha => by have hA := (hP1).lt h0 a ha; have hB := hL1 h0 a ha; have hC := lgz; (try simp only [t_size_alloc] at hB); omega))
           · exact (Lib.hid (fun h0 a ha => by have hA := (hQ1).lt h0 a ha; have hB := hL2 h0 a ha; have hC := lgz; (try simp only [t_size_alloc] at hB); omega)))
        | (with_reducible refine ⟨u1.heap.size, A1, n1, c1, B1, m1, d1, h2, e2, u2, rfl, rfl, ?_, ?_, ?_, ?_, ?_, ?_, ?_, ?_, ?_, ?_, ?_, ?_, ?_⟩
           · omega
           · omega
           · exact Lib.hid (((((((KB.set_ 0 _).set_ 1 _).set_ 2 _).set_ 3 _).set_ 4 _).set_ 5 _).set_ 6 _)
           · exact Lib.hid (below_far7 H2 (by omega) _ _ _ _ _ _ _)
           · exact Lib.hid ⟨rfl, rfl, rfl⟩
           · exact Lib.hid (sl_far7 hP1 (fun h0 a ha => by have hA := (hP1).lt h0 a ha; have hB := hL1 h0 a ha; have hC := lgz; (try simp only [t_size_alloc] at hB); omega) _ _ _ _ _ _ _)
           · exact Lib.hid hl1
           · exact Lib.hid hA1
           · exact Lib.hid (sl_far7 hQ1 (fun h0 a ha => by have hA := (hQ1).lt h0 a ha; have hB := hL2 h0 a ha; have hC := lgz; (try simp only [t_size_alloc] at hB); omega) _ _ _ _ _ _ _)
           · exact Lib.hid hr1
           · exact Lib.hid hB1
           · exact (Lib.hid (fun h0 a ha => by have hA := (hP1).lt h0 a ha; have hB := hL1 h0 a ha; have hC := lgz; (try simp only [t_size_alloc] at hB); omega))
           · exact (Lib.hid (fun h0 a ha => by have hA := (hQ1).lt h0 a ha; have hB := hL2 h0 a ha; have hC := lgz; (try simp only [t_size_alloc] at hB); omega)))
        | (with_reducible refine ⟨v0.heap.size, A1, n1, c1, B1, m1, d1, h2, e2, u2, rfl, rfl, ?_, ?_, ?_, ?_, ?_, ?_, ?_, ?_, ?_, ?_, ?_, ?_, ?_⟩
           · omega
           · omega
           · exact Lib.hid (((((((KB.set_ 0 _).set_ 1 _).set_ 2 _).set_ 3 _).set_ 4 _).set_ 5 _).set_ 6 _)
           · exact Lib.hid (below_far7 H2 (by omega) _ _ _ _ _ _ _)
           · exact Lib.hid ⟨rfl, rfl, rfl⟩
           · exact Lib.hid (sl_far7 hP1 (fun h0 a ha => by have hA := (hP1).lt h0 a ha; have hB := hL1 h0 a ha; have hC := lgz; (try simp only [t_size_alloc] at hB); omega) _ _ _ _ _ _ _)
           · exact Lib.hid hl1
           · exact Lib.hid hA1
           · exact Lib.hid (sl_far7 hQ1 (fun h0 a ha => by have hA := (hQ1).lt h0 a ha; have hB := hL2 h0 a ha; have hC := lgz; (try simp only [t_size_alloc] at hB); omega) _ _ _ _ _ _ _)
           · exact Lib.hid hr1
           · exact Lib.hid hB1
           · exact (Lib.hid (fun h0 a ha => by have hA := (hP1).lt h0 a ha; have hB := hL1 h0 a ha; have hC := lgz; (try simp only [t_size_alloc] at hB); omega))
           · exact (Lib.hid (fun h0 a ha => by have hA := (hQ1).lt h0 a ha; have hB := hL2 h0 a ha; have hC := lgz; (try simp only [t_size_alloc] at hB); omega)))
  case rest =>
    obtain ⟨g, A1, n1, c1, B1, m1, d1, x0, x1, x2, rfl, rfl, hg2, hgz, KX, E1, HX, HP1, HL1, HA1, HQ1, HR1, HB1, HN1, HN2⟩ := hcut
    rename World => v1
    obtain ⟨hx0, hx1, hx2⟩ := HX.out
    subst hx0 hx1 hx2
    clear HX
    clear lt_a r_a0 r_a1 r_a2 r_a3 r_a4 r_a5 r_a6 lt_b r_b0 r_b1 r_b2 r_b3 r_b4 r_b5 r_b6 r_b7 r_b8
    have F1 := Lib.hid (bthen f0 E1.out)
    have y1 := E1.out.size
    have Kb := Lib.hid (Hb_0.out.below E1.out)
    have Kr := Lib.hid (Hr_0.out.below E1.out)
    clear Ha_0 Hb_0 Hr_0 HP_0 HQ_0 HP_lt HQ_lt HP HQ HA HB hL hR
    go_upto_region 4 with fail
    have lt_b := Kb.out.lt
    have r_b0 : v1.cell? ⟨g1, 0, none⟩ = some (.int .i64 ex) := Kb.out.cell 0
    have r_b1 : v1.cell? ⟨g1, 1, none⟩ = some (.int .i64 et) := Kb.out.cell 1
    have r_b2 : v1.cell? ⟨g1, 2, none⟩ = some (.int .i64 ec) := Kb.out.cell 2
    have r_b3 : v1.cell? ⟨g1, 3, none⟩ = some (.int .i64 es) := Kb.out.cell 3
    have r_b4 : v1.cell? ⟨g1, 4, none⟩ = some (.int .i64 2) := Kb.out.cell 4
    have r_b5 : v1.cell? ⟨g1, 5, none⟩ = some (.int .i64 ea) := Kb.out.cell 5
    have r_b6 : v1.cell? ⟨g1, 6, none⟩ = some (.int .i64 eb) := Kb.out.cell 6
    have r_b7 : v1.cell? ⟨g1, 7, none⟩ = some (.int .i64 eg) := Kb.out.cell 7
    have r_b8 : v1.cell? ⟨g1, 8, none⟩ = some (.int .i64 eh) := Kb.out.cell 8
    have lt_x := KX.out.lt
    have r_x0 : v1.cell? ⟨g, 0, none⟩ = some (.int .i64 i0) := KX.out.cell 0
    have z_x0 := KX.out.frozen 0
    have r_x1 : v1.cell? ⟨g, 1, none⟩ = some (.int .i64 t0) := KX.out.cell 1
    have z_x1 := KX.out.frozen 1
    have r_x2 : v1.cell? ⟨g, 2, none⟩ = some (.slice A1 n1 c1) := KX.out.cell 2
    have z_x2 := KX.out.frozen 2
    have r_x3 : v1.cell? ⟨g, 3, none⟩ = some (.slice B1 m1 d1) := KX.out.cell 3
    have z_x3 := KX.out.frozen 3
    have r_x4 : v1.cell? ⟨g, 4, none⟩ = some (.int .i64 x0) := KX.out.cell 4
    have z_x4 := KX.out.frozen 4
    have r_x5 : v1.cell? ⟨g, 5, none⟩ = some (.int .i64 x1) := KX.out.cell 5
    have z_x5 := KX.out.frozen 5
    have r_x6 : v1.cell? ⟨g, 6, none⟩ = some (.int .i64 x2) := KX.out.cell 6
    have z_x6 := KX.out.frozen 6
    have ngb : ¬ g = g1 := by omega
    have nbg : ¬ g1 = g := by omega
    go_cut [] (fun wx => Hid (Blk wx g 37 #[.int .i64 ex, .int .i64 et, .slice A1 n1 c1, .slice B1 m1 d1, .int .i64 x0, .int .i64 x1, .int .i64 x2]) ∧ Hid (Below w.heap.size w wx) ∧ Hid (Blk wx g1 43 #[.int .i64 ex, .int .i64 et, .int .i64 ec, .int .i64 es, .int .i64 2, .int .i64 ea, .int .i64 eb, .int .i64 eg, .int .i64 eh]) ∧ Hid (Blk wx g2 37 #[.int .i64 0, .int .i64 0, .slice none 0 0, .slice none 0 0, .int .i64 0, .int .i64 0, .int .i64 0]) ∧ Hid (Sl wx 2 A1 n1 (PR p2)) ∧ Hid (Sl wx 5 B1 m1 (JB q2)))
    case first =>
      have hS0 : ∀ b o, b < g → v1.cell? ⟨b, o, none⟩ = v1.cell? ⟨b, o, none⟩ := fun b o hb => rfl
      have lbg : g1 < g := by omega
      go_region_held_law (fun w' => ∀ b o, b < g → w'.cell? ⟨b, o, none⟩ = v1.cell? ⟨b, o, none⟩) (repeat' (first | with_reducible assumption | with_reducible exact Nat.le_refl _ | with_reducible exact hS0 | with_reducible refine hl_drew ?_ | with_reducible refine hl_set ?_ ?_ _ _)) (fail)
      all_goals
        go_wp2_with fail
        go_meet
        first
          | exact ⟨Lib.hid (((KX.out.drew).set_ 0 _).set_ 1 _), Lib.hid (((F1.out.drew).setCell (p := ⟨g, 0, none⟩) (by show w.heap.size ≤ g; omega) _).setCell (p := ⟨g, 1, none⟩) (by show w.heap.size ≤ g; omega) _), Lib.hid (((Kb.out.drew).far (p := ⟨g, 0, none⟩) (show g1 ≠ g by omega) _).far (p := ⟨g, 1, none⟩) (show g1 ≠ g by omega) _), Lib.hid (((Kr.out.drew).far (p := ⟨g, 0, none⟩) (show g2 ≠ g by omega) _).far (p := ⟨g, 1, none⟩) (show g2 ≠ g by omega) _), Lib.hid (((HP1.out.drew).far (p := ⟨g, 0, none⟩) (fun h0 a ha => HN1.out h0 a ha) _).far (p := ⟨g, 1, none⟩) (fun h0 a ha => HN1.out h0 a ha) _), Lib.hid (((HQ1.out.drew).far (p := ⟨g, 0, none⟩) (fun h0 a ha => HN2.out h0 a ha) _).far (p := ⟨g, 1, none⟩) (fun h0 a ha => HN2.out h0 a ha) _)⟩
          | exact ⟨Lib.hid (((KX.out.drew).set_ 1 _).set_ 0 _), Lib.hid (((F1.out.drew).setCell (p := ⟨g, 1, none⟩) (by show w.heap.size ≤ g; omega) _).setCell (p := ⟨g, 0, none⟩) (by show w.heap.size ≤ g; omega) _), Lib.hid (((Kb.out.drew).far (p := ⟨g, 1, none⟩) (show g1 ≠ g by omega) _).far (p := ⟨g, 0, none⟩) (show g1 ≠ g by omega) _), Lib.hid (((Kr.out.drew).far (p := ⟨g, 1, none⟩) (show g2 ≠ g by omega) _).far (p := ⟨g, 0, none⟩) (show g2 ≠ g by omega) _), Lib.hid (((HP1.out.drew).far (p := ⟨g, 1, none⟩) (fun h0 a ha => HN1.out h0 a ha) _).far (p := ⟨g, 0, none⟩) (fun h0 a ha => HN1.out h0 a ha) _), Lib.hid (((HQ1.out.drew).far (p := ⟨g, 1, none⟩) (fun h0 a ha => HN2.out h0 a ha) _).far (p := ⟨g, 0, none⟩) (fun h0 a ha => HN2.out h0 a ha) _)⟩
    case rest =>
      clear lt_b r_b0 r_b1 r_b2 r_b3 r_b4 r_b5 r_b6 r_b7 r_b8
      clear lt_x r_x0 z_x0 r_x1 z_x1 r_x2 z_x2 r_x3 z_x3 r_x4 z_x4 r_x5 z_x5 r_x6 z_x6
      obtain ⟨KX2, F2, Kb2, Kr2, HP2, HQ2⟩ := hcut
      rename World => v2
      clear KX
      clear Kb Kr HP1 HQ1
      go_upto_region 7 with fail
      have ngr : ¬ g = g2 := by omega
      have nbr : ¬ g1 = g2 := by omega
      have lt_b := Kb2.out.lt
      have r_b0 : v2.cell? ⟨g1, 0, none⟩ = some (.int .i64 ex) := Kb2.out.cell 0
      have r_b1 : v2.cell? ⟨g1, 1, none⟩ = some (.int .i64 et) := Kb2.out.cell 1
      have r_b2 : v2.cell? ⟨g1, 2, none⟩ = some (.int .i64 ec) := Kb2.out.cell 2
      have r_b3 : v2.cell? ⟨g1, 3, none⟩ = some (.int .i64 es) := Kb2.out.cell 3
      have r_b4 : v2.cell? ⟨g1, 4, none⟩ = some (.int .i64 2) := Kb2.out.cell 4
      have r_b5 : v2.cell? ⟨g1, 5, none⟩ = some (.int .i64 ea) := Kb2.out.cell 5
      have r_b6 : v2.cell? ⟨g1, 6, none⟩ = some (.int .i64 eb) := Kb2.out.cell 6
      have r_b7 : v2.cell? ⟨g1, 7, none⟩ = some (.int .i64 eg) := Kb2.out.cell 7
      have r_b8 : v2.cell? ⟨g1, 8, none⟩ = some (.int .i64 eh) := Kb2.out.cell 8
      have lt_x := KX2.out.lt
      have r_x0 : v2.cell? ⟨g, 0, none⟩ = some (.int .i64 ex) := KX2.out.cell 0
      have z_x0 := KX2.out.frozen 0
      have r_x1 : v2.cell? ⟨g, 1, none⟩ = some (.int .i64 et) := KX2.out.cell 1
      have z_x1 := KX2.out.frozen 1
      have r_x2 : v2.cell? ⟨g, 2, none⟩ = some (.slice A1 n1 c1) := KX2.out.cell 2
      have z_x2 := KX2.out.frozen 2
      have r_x3 : v2.cell? ⟨g, 3, none⟩ = some (.slice B1 m1 d1) := KX2.out.cell 3
      have z_x3 := KX2.out.frozen 3
      have r_x4 : v2.cell? ⟨g, 4, none⟩ = some (.int .i64 x0) := KX2.out.cell 4
      have z_x4 := KX2.out.frozen 4
      have r_x5 : v2.cell? ⟨g, 5, none⟩ = some (.int .i64 x1) := KX2.out.cell 5
      have z_x5 := KX2.out.frozen 5
      have r_x6 : v2.cell? ⟨g, 6, none⟩ = some (.int .i64 x2) := KX2.out.cell 6
      have z_x6 := KX2.out.frozen 6
      have lt_r := Kr2.out.lt
      have r_r0 : v2.cell? ⟨g2, 0, none⟩ = some (.int .i64 0) := Kr2.out.cell 0
      have z_r0 := Kr2.out.frozen 0
      have r_r1 : v2.cell? ⟨g2, 1, none⟩ = some (.int .i64 0) := Kr2.out.cell 1
      have z_r1 := Kr2.out.frozen 1
      have r_r2 : v2.cell? ⟨g2, 2, none⟩ = some (.slice none 0 0) := Kr2.out.cell 2
      have z_r2 := Kr2.out.frozen 2
      have r_r3 : v2.cell? ⟨g2, 3, none⟩ = some (.slice none 0 0) := Kr2.out.cell 3
      have z_r3 := Kr2.out.frozen 3
      have r_r4 : v2.cell? ⟨g2, 4, none⟩ = some (.int .i64 0) := Kr2.out.cell 4
      have z_r4 := Kr2.out.frozen 4
      have r_r5 : v2.cell? ⟨g2, 5, none⟩ = some (.int .i64 0) := Kr2.out.cell 5
      have z_r5 := Kr2.out.frozen 5
      have r_r6 : v2.cell? ⟨g2, 6, none⟩ = some (.int .i64 0) := Kr2.out.cell 6
      have z_r6 := Kr2.out.frozen 6
      have hS0 : ∀ b o, b < v2.heap.size → b ≠ g2 → v2.cell? ⟨b, o, none⟩ = v2.cell? ⟨b, o, none⟩ := fun b o hb hk => rfl
      go_region_held_law (fun w' => ∀ b o, b < v2.heap.size → b ≠ g2 → w'.cell? ⟨b, o, none⟩ = v2.cell? ⟨b, o, none⟩) (repeat' (first | with_reducible assumption | with_reducible exact hS0 | with_reducible refine hn_drew ?_ | with_reducible refine hn_set7 ?_ _ _ _ _ _ _ _)) (first | (go_at_call 42; refine (copyState_any A1 n1 c1 B1 m1 d1 ex et x0 x1 x2 p2 q2 _ (by first | with_reducible exact HP2.out | with_reducible exact Sl.drew HP2.out) (by first | with_reducible exact HQ2.out | with_reducible exact Sl.drew HQ2.out) HL1.out HR1.out (by have := HL1.out; omega) (by have := HR1.out; omega) HA1.out HB1.out).mono ?_; rintro e v3 ⟨A5, c5, B5, d5, rfl, R5, R6, hap, b3⟩; have E3 : Below v2.heap.size v2 v3 := (by first | with_reducible exact b3 | with_reducible exact tb_dr b3); have hS3 : ∀ b o, b < v2.heap.size → b ≠ g2 → v3.cell? ⟨b, o, none⟩ = v2.cell? ⟨b, o, none⟩ := fun b o hb hk => E3.cell (p := ⟨b, o, none⟩) hb; have Kr3 := Kr2.out.below E3; have yb0 := Kr3.cell 0; have yf0 := Kr3.frozen 0; have yb1 := Kr3.cell 1; have yf1 := Kr3.frozen 1; have yb2 := Kr3.cell 2; have yf2 := Kr3.frozen 2; have yb3 := Kr3.cell 3; have yf3 := Kr3.frozen 3; have yb4 := Kr3.cell 4; have yf4 := Kr3.frozen 4; have yb5 := Kr3.cell 5; have yf5 := Kr3.frozen 5; have yb6 := Kr3.cell 6; have yf6 := Kr3.frozen 6; have yl := Kr3.lt))
      all_goals
        go_wp21
        refine bodyPost_ret (v := .tuple #[.agg #[.int .i64 ex, .int .i64 et, .slice A5 n1 c5, .slice B5 m1 d5, .int .i64 x0, .int .i64 x1, .int .i64 x2], .int .i64 2]) (by simp [results, Tryz.results43, go_sem, *]) rfl ?_
        have h5 := R5.mono (show w.heap.size ≤ _ from F2.out.size)
        have h6 := R6.mono (show w.heap.size ≤ _ from F2.out.size)
        have n5 : ∀ a, A5 = some a → a.block ≠ g2 := fun a ha => by have := R5.ge a ha; (try simp at this); omega
        have n6 : ∀ a, B5 = some a → a.block ≠ g2 := fun a ha => by have := R6.ge a ha; (try simp at this); omega
        exact RetStateV.mk HL1.out HR1.out (row_far7 h5 n5 _ _ _ _ _ _ _) (row_far7 h6 n6 _ _ _ _ _ _ _) hap (below_far7 (bthen F2.out E3) (show w.heap.size ≤ g2 by omega) _ _ _ _ _ _ _)
end Go.Proofs.YtokklkmibjpjnaaGreat
namespace Go.Proofs.YtokklkmibjpjnaaGreat
set_option linter.unusedSimpArgs false
set_option linter.unusedVariables false
attribute [local go_sem] n_lt2 n_lt3 n_lt4 n_le2 n_le3
open Go.RowKit
attribute [local go_sem] Ext.cell Ext.frozen
set_option maxRecDepth 100000 in
set_option maxHeartbeats 8000000 in
theorem applied_yes3 (A : Option Addr) (n c : Nat) (B : Option Addr) (m d : Nat) (i0 t0 l0 l1 l2 : Int) (pl : List Pr) (ql : List Jb) (ex et ec es ea eb eg eh : Int) (w : World) (hP : Sl w 2 A n (PR pl)) (hQ : Sl w 5 B m (JB ql)) (hl : pl.length = n) (hr : ql.length = m) (hn : n ≤ 1000) (hm : m ≤ 1000) (hA : A = none → n = 0 ∧ c = 0) (hB : B = none → m = 0 ∧ d = 0) (p2 : List Pr) (q2 : List Jb) (h2 e2 u2 : Int) (hp2 : p2.length ≤ 1000) (hq2 : q2.length ≤ 1000) (hE : Hid (effE l0 l1 l2 pl ql ex et ec es 3 ea eb eg eh = (⟨p2, q2, h2, e2, u2⟩, true))) :
    Calls Tryz.prog 43 #[.agg #[.int .i64 i0, .int .i64 t0, .slice A n c, .slice B m d, .int .i64 l0, .int .i64 l1, .int .i64 l2], .agg #[.int .i64 ex, .int .i64 et, .int .i64 ec, .int .i64 es, .int .i64 3, .int .i64 ea, .int .i64 eb, .int .i64 eg, .int .i64 eh]] w (RetStateV w ex et h2 e2 u2 p2.length (PR p2) q2.length (JB q2) (.int .i64 3)) := by
  have HP := Lib.hid hP
  have HQ := Lib.hid hQ
  have HA := Lib.hid hA
  have HB := Lib.hid hB
  have hL := Lib.hid hl
  have hR := Lib.hid hr
  clear hP hQ hA hB hl hr
  go_enter Tryz.func43, Tryz.ntmps43
  go_upto_region 1 with fail
  obtain ⟨v0, hv0⟩ : ∃ x : World, x = (((w.alloc (.cells #[.int .i64 i0, .int .i64 t0, .slice A n c, .slice B m d, .int .i64 l0, .int .i64 l1, .int .i64 l2] 37)).alloc (.cells #[.int .i64 ex, .int .i64 et, .int .i64 ec, .int .i64 es, .int .i64 3, .int .i64 ea, .int .i64 eb, .int .i64 eg, .int .i64 eh] 43)).alloc (.cells #[.int .i64 0, .int .i64 0, .slice none 0 0, .slice none 0 0, .int .i64 0, .int .i64 0, .int .i64 0] 37)) := ⟨_, rfl⟩
  rw [← hv0]
  have f0 : Below w.heap.size w v0 := by rw [hv0]; (repeat' (first | (with_reducible exact Below.refl _ _) | (with_reducible assumption) | (with_reducible refine Below.alloc ?_ ?_ _) | (with_reducible refine Below.drew ?_) | (with_reducible refine Below.setCell ?_ ?_ _) | (with_reducible refine bstep (by assumption) ?_ ?_) | (with_reducible exact Nat.le_refl _) | omega | (simp [*]; done) | (simp [*]; omega)))
  have z0 : w.heap.size + 3 ≤ v0.heap.size := by rw [hv0]; simp [size_set]
  have HP_0 := Lib.hid (HP.out.below f0)
  have HP_lt := Lib.hid (fun hn => HP.out.lt hn)
  have HQ_0 := Lib.hid (HQ.out.below f0)
  have HQ_lt := Lib.hid (fun hn => HQ.out.lt hn)
  have Ha_0 : Hid (Blk v0 w.heap.size 37 #[.int .i64 i0, .int .i64 t0, .slice A n c, .slice B m d, .int .i64 l0, .int .i64 l1, .int .i64 l2]) := by rw [hv0]; exact ((Blk.new_at _ _ _ _ (by simp)).alloc _).alloc _
  have Hb_0 : Hid (Blk v0 (w.heap.size + 1) 43 #[.int .i64 ex, .int .i64 et, .int .i64 ec, .int .i64 es, .int .i64 3, .int .i64 ea, .int .i64 eb, .int .i64 eg, .int .i64 eh]) := by rw [hv0]; exact (Blk.new_at _ _ _ _ (by simp)).alloc _
  have Hr_0 : Hid (Blk v0 (w.heap.size + 1 + 1) 37 #[.int .i64 0, .int .i64 0, .slice none 0 0, .slice none 0 0, .int .i64 0, .int .i64 0, .int .i64 0]) := by rw [hv0]; exact Blk.new_at _ _ _ _ (by simp)
  clear hv0
  generalize hg2 : w.heap.size + 1 + 1 = g2 at *
  generalize hg1 : w.heap.size + 1 = g1 at *
  have lg1 : w.heap.size < g1 := by omega
  have lg2 : g1 < g2 := by omega
  have lgz : g2 < v0.heap.size := by omega
  have nq1x0 : ¬ g1 = w.heap.size := by omega
  have nq0x1 : ¬ w.heap.size = g1 := by omega
  have nq2x0 : ¬ g2 = w.heap.size := by omega
  have nq0x2 : ¬ w.heap.size = g2 := by omega
  have nq2x1 : ¬ g2 = g1 := by omega
  have nq1x2 : ¬ g1 = g2 := by omega
  clear hg1 hg2
  have lt_a := Ha_0.out.lt
  have r_a0 : v0.cell? ⟨w.heap.size, 0, none⟩ = some (.int .i64 i0) := Ha_0.out.cell 0
  have r_a1 : v0.cell? ⟨w.heap.size, 1, none⟩ = some (.int .i64 t0) := Ha_0.out.cell 1
  have r_a2 : v0.cell? ⟨w.heap.size, 2, none⟩ = some (.slice A n c) := Ha_0.out.cell 2
  have r_a3 : v0.cell? ⟨w.heap.size, 3, none⟩ = some (.slice B m d) := Ha_0.out.cell 3
  have r_a4 : v0.cell? ⟨w.heap.size, 4, none⟩ = some (.int .i64 l0) := Ha_0.out.cell 4
  have r_a5 : v0.cell? ⟨w.heap.size, 5, none⟩ = some (.int .i64 l1) := Ha_0.out.cell 5
  have r_a6 : v0.cell? ⟨w.heap.size, 6, none⟩ = some (.int .i64 l2) := Ha_0.out.cell 6
  have lt_b := Hb_0.out.lt
  have r_b0 : v0.cell? ⟨g1, 0, none⟩ = some (.int .i64 ex) := Hb_0.out.cell 0
  have r_b1 : v0.cell? ⟨g1, 1, none⟩ = some (.int .i64 et) := Hb_0.out.cell 1
  have r_b2 : v0.cell? ⟨g1, 2, none⟩ = some (.int .i64 ec) := Hb_0.out.cell 2
  have r_b3 : v0.cell? ⟨g1, 3, none⟩ = some (.int .i64 es) := Hb_0.out.cell 3
  have r_b4 : v0.cell? ⟨g1, 4, none⟩ = some (.int .i64 3) := Hb_0.out.cell 4
  have r_b5 : v0.cell? ⟨g1, 5, none⟩ = some (.int .i64 ea) := Hb_0.out.cell 5
  have r_b6 : v0.cell? ⟨g1, 6, none⟩ = some (.int .i64 eb) := Hb_0.out.cell 6
  have r_b7 : v0.cell? ⟨g1, 7, none⟩ = some (.int .i64 eg) := Hb_0.out.cell 7
  have r_b8 : v0.cell? ⟨g1, 8, none⟩ = some (.int .i64 eh) := Hb_0.out.cell 8
  go_cut [6, 7] (fun pv ov wx => ∃ (g : Nat) (A1 : Option Addr) (n1 c1 : Nat) (B1 : Option Addr) (m1 d1 : Nat) (x0 x1 x2 : Int), pv = .pointer (some ⟨g, 0, none⟩) ∧ ov = .bool true ∧ g2 < g ∧ v0.heap.size ≤ g ∧ Hid (Blk wx g 37 #[.int .i64 i0, .int .i64 t0, .slice A1 n1 c1, .slice B1 m1 d1, .int .i64 x0, .int .i64 x1, .int .i64 x2]) ∧ Hid (Below v0.heap.size v0 wx) ∧ Hid (x0 = h2 ∧ x1 = e2 ∧ x2 = u2) ∧ Hid (Sl wx 2 A1 n1 (PR p2)) ∧ Hid (p2.length = n1) ∧ Hid (A1 = none → n1 = 0 ∧ c1 = 0) ∧ Hid (Sl wx 5 B1 m1 (JB q2)) ∧ Hid (q2.length = m1) ∧ Hid (B1 = none → m1 = 0 ∧ d1 = 0) ∧ Hid (0 < n1 → ∀ a, A1 = some a → a.block ≠ g) ∧ Hid (0 < m1 → ∀ a, B1 = some a → a.block ≠ g))
  case first =>
    have hnm : n ≤ maxLen := by unfold maxLen; omega
    have hmm : m ≤ maxLen := by unfold maxLen; omega
    have hS0 : ∀ b o, b < v0.heap.size → v0.cell? ⟨b, o, none⟩ = v0.cell? ⟨b, o, none⟩ := fun b o hb => rfl
    have ix : ∀ wz : World, (Instr.index 116 (.agg #[.nilFunc, .func (.func 97) #[] #[], .func (.func 99) #[] #[], .func (.func 101) #[] #[], .func (.func 103) #[] #[], .func (.func 107) #[] #[]]) (.int .i64 3)).run Tryz.prog wz = .ok (.func (.func 101) #[] #[]) wz := fun _ => by kernel_rfl
    go_region_held_law (fun w' => ∀ b o, b < v0.heap.size → w'.cell? ⟨b, o, none⟩ = v0.cell? ⟨b, o, none⟩) (repeat' (first | with_reducible assumption | with_reducible exact Nat.le_refl _ | with_reducible exact hS0 | with_reducible refine hl_drew ?_ | with_reducible refine hl_alloc ?_ ?_ _ | with_reducible refine hl_set7 ?_ ?_ _ _ _ _ _ _ _)) (first | (go_at_call 82; refine (effects_any _).mono ?_; rintro e u1 ⟨rfl, b1⟩; (first | (have KB : Blk u1 v0.heap.size 37 #[.int .i64 0, .int .i64 0, .slice none 0 0, .slice none 0 0, .int .i64 0, .int .i64 0, .int .i64 0] := by with_reducible exact t_below2 b1 (Blk.new_at _ _ _ _ rfl)) | (have KB : Blk u1 v0.heap.size 37 #[.int .i64 0, .int .i64 0, .slice none 0 0, .slice none 0 0, .int .i64 0, .int .i64 0, .int .i64 0] := by with_reducible exact t_below2 b1 (Blk.drew (Blk.new_at _ _ _ _ rfl))) | (have KB : Blk u1 v0.heap.size 37 #[.int .i64 0, .int .i64 0, .slice none 0 0, .slice none 0 0, .int .i64 0, .int .i64 0, .int .i64 0] := by with_reducible exact t_below2 b1 (Blk.new_at _ _ _ _ (t_drew_size _))) | (replace KB := t_below2 b1 KB) | (replace KB := t_below2 b1 (Blk.drew KB)) | skip); have E1 : Below v0.heap.size v0 u1 := (by first | with_reducible exact b1 | with_reducible exact tb_dr b1 | with_reducible exact tb_al b1 | with_reducible exact tb_da b1 | with_reducible exact tb_ad b1); have H1 := E1; have y1 := H1.size; have hS1 : ∀ b o, b < v0.heap.size → u1.cell? ⟨b, o, none⟩ = v0.cell? ⟨b, o, none⟩ := fun b o hb => H1.cell (p := ⟨b, o, none⟩) hb; have HPu := Lib.hid (HP_0.out.below E1); have HQu := Lib.hid (HQ_0.out.below E1)) | (go_at_call 101; refine (eff3_R A n c B m d i0 t0 l0 l1 l2 pl ql ex et ec es ea eb eg eh _ (by first | with_reducible exact HPu.out | with_reducible exact Sl.alloc HPu.out _) (by first | with_reducible exact HQu.out | with_reducible exact Sl.alloc HQu.out _) hL.out hR.out hnm hmm HA.out HB.out w.heap.size HP_lt.out HQ_lt.out p2 q2 h2 e2 u2 true hE).mono ?_; rintro e u2_ ⟨A1, n1, c1, B1, m1, d1, x0, x1, x2, rfl, b2, hx⟩; obtain ⟨hx0, hx1, hx2, hP1, hl1, hA1, hQ1, hr1, hB1, hL1, hL2⟩ := hx rfl; (first | (have KB : Blk u2_ u1.heap.size 37 #[.int .i64 0, .int .i64 0, .slice none 0 0, .slice none 0 0, .int .i64 0, .int .i64 0, .int .i64 0] := by with_reducible exact t_below2 b2 (Blk.new_at _ _ _ _ rfl)) | (have KB : Blk u2_ u1.heap.size 37 #[.int .i64 0, .int .i64 0, .slice none 0 0, .slice none 0 0, .int .i64 0, .int .i64 0, .int .i64 0] := by with_reducible exact t_below2 b2 (Blk.drew (Blk.new_at _ _ _ _ rfl))) | (have KB : Blk u2_ u1.heap.size 37 #[.int .i64 0, .int .i64 0, .slice none 0 0, .slice none 0 0, .int .i64 0, .int .i64 0, .int .i64 0] := by with_reducible exact t_below2 b2 (Blk.new_at _ _ _ _ (t_drew_size _))) | (replace KB := t_below2 b2 KB) | (replace KB := t_below2 b2 (Blk.drew KB)) | skip); have E2 : Below u1.heap.size u1 u2_ := (by first | with_reducible exact b2 | with_reducible exact tb_dr b2 | with_reducible exact tb_al b2 | with_reducible exact tb_da b2 | with_reducible exact tb_ad b2); have H2 := bthen H1 E2; have y2 := H2.size; have hS2 : ∀ b o, b < v0.heap.size → u2_.cell? ⟨b, o, none⟩ = v0.cell? ⟨b, o, none⟩ := fun b o hb => H2.cell (p := ⟨b, o, none⟩) hb; (try (have kb0 := KB.cell 0)); (try (have kf0 := KB.frozen 0)); (try (have kb1 := KB.cell 1)); (try (have kf1 := KB.frozen 1)); (try (have kb2 := KB.cell 2)); (try (have kf2 := KB.frozen 2)); (try (have kb3 := KB.cell 3)); (try (have kf3 := KB.frozen 3)); (try (have kb4 := KB.cell 4)); (try (have kf4 := KB.frozen 4)); (try (have kb5 := KB.cell 5)); (try (have kf5 := KB.frozen 5)); (try (have kb6 := KB.cell 6)); (try (have kf6 := KB.frozen 6)); (try (have kbl := KB.lt))))
    all_goals
      have s1 := b1.size
      have s2 := b2.size
      (try simp only [t_size_alloc, ← t_drew_size] at s1)
      (try simp only [t_size_alloc, ← t_drew_size] at s2)
      go_wp2_with fail
      go_meet
      first
        | (with_reducible refine ⟨u2_.heap.size, A1, n1, c1, B1, m1, d1, h2, e2, u2, rfl, rfl, ?_, ?_, ?_, ?_, ?_, ?_, ?_, ?_, ?_, ?_, ?_, ?_, ?_⟩
           · omega
           · omega
           · exact Lib.hid (Blk.new_at _ _ _ _ rfl)
           · exact Lib.hid (H2.alloc y2 _)
           · exact Lib.hid ⟨rfl, rfl, rfl⟩
           · exact Lib.hid (hP1.alloc _)
           · exact Lib.hid hl1
           · exact Lib.hid hA1
           · exact Lib.hid (hQ1.alloc _)
           · exact Lib.hid hr1
           · exact Lib.hid hB1
           · exact (Lib.hid (fun h0 a ha => by have hA := (hP1).lt h0 a ha; have hB := hL1 h0 a ha; have hC := lgz; (try simp only [t_size_alloc] at hB); omega))
           · exact (Lib.hid (fun h0 a ha => by have hA := (hQ1).lt h0 a ha; have hB := hL2 h0 a ha; have hC := lgz; (try simp only [t_size_alloc] at hB); omega)))
        | (with_reducible refine ⟨u1.heap.size, A1, n1, c1, B1, m1, d1, h2, e2, u2, rfl, rfl, ?_, ?_, ?_, ?_, ?_, ?_, ?_, ?_, ?_, ?_, ?_, ?_, ?_⟩
           · omega
           · omega
           · exact Lib.hid (((((((KB.set_ 0 _).set_ 1 _).set_ 2 _).set_ 3 _).set_ 4 _).set_ 5 _).set_ 6 _)
           · exact Lib.hid (below_far7 H2 (by omega) _ _ _ _ _ _ _)
           · exact Lib.hid ⟨rfl, rfl, rfl⟩
           · exact Lib.hid (sl_far7 hP1 (fun h0 a ha => by have hA := (hP1).lt h0 a ha; have hB := hL1 h0 a ha; have hC := lgz; (try simp only [t_size_alloc] at hB); omega) _ _ _ _ _ _ _)
           · exact Lib.hid hl1
           · exact Lib.hid hA1
           · exact Lib.hid (sl_far7 hQ1 (fun h0 a ha => by have hA := (hQ1).lt h0 a ha; have hB := hL2 h0 a ha; have hC := lgz; (try simp only [t_size_alloc] at hB); omega) _ _ _ _ _ _ _)
           · exact Lib.hid hr1
           · exact Lib.hid hB1
           · exact (Lib.hid (fun h0 a ha => by have hA := (hP1).lt h0 a ha; have hB := hL1 h0 a ha; have hC := lgz; (try simp only [t_size_alloc] at hB); omega))
           · exact (Lib.hid (fun h0 a ha => by have hA := (hQ1).lt h0 a ha; have hB := hL2 h0 a ha; have hC := lgz; (try simp only [t_size_alloc] at hB); omega)))
        | (with_reducible refine ⟨v0.heap.size, A1, n1, c1, B1, m1, d1, h2, e2, u2, rfl, rfl, ?_, ?_, ?_, ?_, ?_, ?_, ?_, ?_, ?_, ?_, ?_, ?_, ?_⟩
           · omega
           · omega
           · exact Lib.hid (((((((KB.set_ 0 _).set_ 1 _).set_ 2 _).set_ 3 _).set_ 4 _).set_ 5 _).set_ 6 _)
           · exact Lib.hid (below_far7 H2 (by omega) _ _ _ _ _ _ _)
           · exact Lib.hid ⟨rfl, rfl, rfl⟩
           · exact Lib.hid (sl_far7 hP1 (fun h0 a ha => by have hA := (hP1).lt h0 a ha; have hB := hL1 h0 a ha; have hC := lgz; (try simp only [t_size_alloc] at hB); omega) _ _ _ _ _ _ _)
           · exact Lib.hid hl1
           · exact Lib.hid hA1
           · exact Lib.hid (sl_far7 hQ1 (fun h0 a ha => by have hA := (hQ1).lt h0 a ha; have hB := hL2 h0 a ha; have hC := lgz; (try simp only [t_size_alloc] at hB); omega) _ _ _ _ _ _ _)
           · exact Lib.hid hr1
           · exact Lib.hid hB1
           · exact (Lib.hid (fun h0 a ha => by have hA := (hP1).lt h0 a ha; have hB := hL1 h0 a ha; have hC := lgz; (try simp only [t_size_alloc] at hB); omega))
           · exact (Lib.hid (fun h0 a ha => by have hA := (hQ1).lt h0 a ha; have hB := hL2 h0 a ha; have hC := lgz; (try simp only [t_size_alloc] at hB); omega)))
  case rest =>
    obtain ⟨g, A1, n1, c1, B1, m1, d1, x0, x1, x2, rfl, rfl, hg2, hgz, KX, E1, HX, HP1, HL1, HA1, HQ1, HR1, HB1, HN1, HN2⟩ := hcut
    rename World => v1
    obtain ⟨hx0, hx1, hx2⟩ := HX.out
    subst hx0 hx1 hx2
    clear HX
    clear lt_a r_a0 r_a1 r_a2 r_a3 r_a4 r_a5 r_a6 lt_b r_b0 r_b1 r_b2 r_b3 r_b4 r_b5 r_b6 r_b7 r_b8
    have F1 := Lib.hid (bthen f0 E1.out)
    have y1 := E1.out.size
    have Kb := Lib.hid (Hb_0.out.below E1.out)
    have Kr := Lib.hid (Hr_0.out.below E1.out)
    clear Ha_0 Hb_0 Hr_0 HP_0 HQ_0 HP_lt HQ_lt HP HQ HA HB hL hR
    go_upto_region 4 with fail
    have lt_b := Kb.out.lt
    have r_b0 : v1.cell? ⟨g1, 0, none⟩ = some (.int .i64 ex) := Kb.out.cell 0
    have r_b1 : v1.cell? ⟨g1, 1, none⟩ = some (.int .i64 et) := Kb.out.cell 1
    have r_b2 : v1.cell? ⟨g1, 2, none⟩ = some (.int .i64 ec) := Kb.out.cell 2
    have r_b3 : v1.cell? ⟨g1, 3, none⟩ = some (.int .i64 es) := Kb.out.cell 3
    have r_b4 : v1.cell? ⟨g1, 4, none⟩ = some (.int .i64 3) := Kb.out.cell 4
    have r_b5 : v1.cell? ⟨g1, 5, none⟩ = some (.int .i64 ea) := Kb.out.cell 5
    have r_b6 : v1.cell? ⟨g1, 6, none⟩ = some (.int .i64 eb) := Kb.out.cell 6
    have r_b7 : v1.cell? ⟨g1, 7, none⟩ = some (.int .i64 eg) := Kb.out.cell 7
    have r_b8 : v1.cell? ⟨g1, 8, none⟩ = some (.int .i64 eh) := Kb.out.cell 8
    have lt_x := KX.out.lt
    have r_x0 : v1.cell? ⟨g, 0, none⟩ = some (.int .i64 i0) := KX.out.cell 0
    have z_x0 := KX.out.frozen 0
    have r_x1 : v1.cell? ⟨g, 1, none⟩ = some (.int .i64 t0) := KX.out.cell 1
    have z_x1 := KX.out.frozen 1
    have r_x2 : v1.cell? ⟨g, 2, none⟩ = some (.slice A1 n1 c1) := KX.out.cell 2
    have z_x2 := KX.out.frozen 2
    have r_x3 : v1.cell? ⟨g, 3, none⟩ = some (.slice B1 m1 d1) := KX.out.cell 3
    have z_x3 := KX.out.frozen 3
    have r_x4 : v1.cell? ⟨g, 4, none⟩ = some (.int .i64 x0) := KX.out.cell 4
    have z_x4 := KX.out.frozen 4
    have r_x5 : v1.cell? ⟨g, 5, none⟩ = some (.int .i64 x1) := KX.out.cell 5
    have z_x5 := KX.out.frozen 5
    have r_x6 : v1.cell? ⟨g, 6, none⟩ = some (.int .i64 x2) := KX.out.cell 6
    have z_x6 := KX.out.frozen 6
    have ngb : ¬ g = g1 := by omega
    have nbg : ¬ g1 = g := by omega
    go_cut [] (fun wx => Hid (Blk wx g 37 #[.int .i64 ex, .int .i64 et, .slice A1 n1 c1, .slice B1 m1 d1, .int .i64 x0, .int .i64 x1, .int .i64 x2]) ∧ Hid (Below w.heap.size w wx) ∧ Hid (Blk wx g1 43 #[.int .i64 ex, .int .i64 et, .int .i64 ec, .int .i64 es, .int .i64 3, .int .i64 ea, .int .i64 eb, .int .i64 eg, .int .i64 eh]) ∧ Hid (Blk wx g2 37 #[.int .i64 0, .int .i64 0, .slice none 0 0, .slice none 0 0, .int .i64 0, .int .i64 0, .int .i64 0]) ∧ Hid (Sl wx 2 A1 n1 (PR p2)) ∧ Hid (Sl wx 5 B1 m1 (JB q2)))
    case first =>
      have hS0 : ∀ b o, b < g → v1.cell? ⟨b, o, none⟩ = v1.cell? ⟨b, o, none⟩ := fun b o hb => rfl
      have lbg : g1 < g := by omega
      go_region_held_law (fun w' => ∀ b o, b < g → w'.cell? ⟨b, o, none⟩ = v1.cell? ⟨b, o, none⟩) (repeat' (first | with_reducible assumption | with_reducible exact Nat.le_refl _ | with_reducible exact hS0 | with_reducible refine hl_drew ?_ | with_reducible refine hl_set ?_ ?_ _ _)) (fail)
      all_goals
        go_wp2_with fail
        go_meet
        first
          | exact ⟨Lib.hid (((KX.out.drew).set_ 0 _).set_ 1 _), Lib.hid (((F1.out.drew).setCell (p := ⟨g, 0, none⟩) (by show w.heap.size ≤ g; omega) _).setCell (p := ⟨g, 1, none⟩) (by show w.heap.size ≤ g; omega) _), Lib.hid (((Kb.out.drew).far (p := ⟨g, 0, none⟩) (show g1 ≠ g by omega) _).far (p := ⟨g, 1, none⟩) (show g1 ≠ g by omega) _), Lib.hid (((Kr.out.drew).far (p := ⟨g, 0, none⟩) (show g2 ≠ g by omega) _).far (p := ⟨g, 1, none⟩) (show g2 ≠ g by omega) _), Lib.hid (((HP1.out.drew).far (p := ⟨g, 0, none⟩) (fun h0 a ha => HN1.out h0 a ha) _).far (p := ⟨g, 1, none⟩) (fun h0 a ha => HN1.out h0 a ha) _), Lib.hid (((HQ1.out.drew).far (p := ⟨g, 0, none⟩) (fun h0 a ha => HN2.out h0 a ha) _).far (p := ⟨g, 1, none⟩) (fun h0 a ha => HN2.out h0 a ha) _)⟩
          | exact ⟨Lib.hid (((KX.out.drew).set_ 1 _).set_ 0 _), Lib.hid (((F1.out.drew).setCell (p := ⟨g, 1, none⟩) (by show w.heap.size ≤ g; omega) _).setCell (p := ⟨g, 0, none⟩) (by show w.heap.size ≤ g; omega) _), Lib.hid (((Kb.out.drew).far (p := ⟨g, 1, none⟩) (show g1 ≠ g by omega) _).far (p := ⟨g, 0, none⟩) (show g1 ≠ g by omega) _), Lib.hid (((Kr.out.drew).far (p := ⟨g, 1, none⟩) (show g2 ≠ g by omega) _).far (p := ⟨g, 0, none⟩) (show g2 ≠ g by omega) _), Lib.hid (((HP1.out.drew).far (p := ⟨g, 1, none⟩) (fun h0 a ha => HN1.out h0 a ha) _).far (p := ⟨g, 0, none⟩) (fun h0 a ha => HN1.out h0 a ha) _), Lib.hid (((HQ1.out.drew).far (p := ⟨g, 1, none⟩) (fun h0 a ha => HN2.out h0 a ha) _).far (p := ⟨g, 0, none⟩) (fun h0 a ha => HN2.out h0 a ha) _)⟩
    case rest =>
      clear lt_b r_b0 r_b1 r_b2 r_b3 r_b4 r_b5 r_b6 r_b7 r_b8
      clear lt_x r_x0 z_x0 r_x1 z_x1 r_x2 z_x2 r_x3 z_x3 r_x4 z_x4 r_x5 z_x5 r_x6 z_x6
      obtain ⟨KX2, F2, Kb2, Kr2, HP2, HQ2⟩ := hcut
      rename World => v2
      clear KX
      clear Kb Kr HP1 HQ1
      go_upto_region 7 with fail
      have ngr : ¬ g = g2 := by omega
      have nbr : ¬ g1 = g2 := by omega
      have lt_b := Kb2.out.lt
      have r_b0 : v2.cell? ⟨g1, 0, none⟩ = some (.int .i64 ex) := Kb2.out.cell 0
      have r_b1 : v2.cell? ⟨g1, 1, none⟩ = some (.int .i64 et) := Kb2.out.cell 1
      have r_b2 : v2.cell? ⟨g1, 2, none⟩ = some (.int .i64 ec) := Kb2.out.cell 2
      have r_b3 : v2.cell? ⟨g1, 3, none⟩ = some (.int .i64 es) := Kb2.out.cell 3
      have r_b4 : v2.cell? ⟨g1, 4, none⟩ = some (.int .i64 3) := Kb2.out.cell 4
      have r_b5 : v2.cell? ⟨g1, 5, none⟩ = some (.int .i64 ea) := Kb2.out.cell 5
      have r_b6 : v2.cell? ⟨g1, 6, none⟩ = some (.int .i64 eb) := Kb2.out.cell 6
      have r_b7 : v2.cell? ⟨g1, 7, none⟩ = some (.int .i64 eg) := Kb2.out.cell 7
      have r_b8 : v2.cell? ⟨g1, 8, none⟩ = some (.int .i64 eh) := Kb2.out.cell 8
      have lt_x := KX2.out.lt
      have r_x0 : v2.cell? ⟨g, 0, none⟩ = some (.int .i64 ex) := KX2.out.cell 0
      have z_x0 := KX2.out.frozen 0
      have r_x1 : v2.cell? ⟨g, 1, none⟩ = some (.int .i64 et) := KX2.out.cell 1
      have z_x1 := KX2.out.frozen 1
      have r_x2 : v2.cell? ⟨g, 2, none⟩ = some (.slice A1 n1 c1) := KX2.out.cell 2
      have z_x2 := KX2.out.frozen 2
      have r_x3 : v2.cell? ⟨g, 3, none⟩ = some (.slice B1 m1 d1) := KX2.out.cell 3
      have z_x3 := KX2.out.frozen 3
      have r_x4 : v2.cell? ⟨g, 4, none⟩ = some (.int .i64 x0) := KX2.out.cell 4
      have z_x4 := KX2.out.frozen 4
      have r_x5 : v2.cell? ⟨g, 5, none⟩ = some (.int .i64 x1) := KX2.out.cell 5
      have z_x5 := KX2.out.frozen 5
      have r_x6 : v2.cell? ⟨g, 6, none⟩ = some (.int .i64 x2) := KX2.out.cell 6
      have z_x6 := KX2.out.frozen 6
      have lt_r := Kr2.out.lt
      have r_r0 : v2.cell? ⟨g2, 0, none⟩ = some (.int .i64 0) := Kr2.out.cell 0
      have z_r0 := Kr2.out.frozen 0
      have r_r1 : v2.cell? ⟨g2, 1, none⟩ = some (.int .i64 0) := Kr2.out.cell 1
      have z_r1 := Kr2.out.frozen 1
      have r_r2 : v2.cell? ⟨g2, 2, none⟩ = some (.slice none 0 0) := Kr2.out.cell 2
      have z_r2 := Kr2.out.frozen 2
      have r_r3 : v2.cell? ⟨g2, 3, none⟩ = some (.slice none 0 0) := Kr2.out.cell 3
      have z_r3 := Kr2.out.frozen 3
      have r_r4 : v2.cell? ⟨g2, 4, none⟩ = some (.int .i64 0) := Kr2.out.cell 4
      have z_r4 := Kr2.out.frozen 4
      have r_r5 : v2.cell? ⟨g2, 5, none⟩ = some (.int .i64 0) := Kr2.out.cell 5
      have z_r5 := Kr2.out.frozen 5
      have r_r6 : v2.cell? ⟨g2, 6, none⟩ = some (.int .i64 0) := Kr2.out.cell 6
      have z_r6 := Kr2.out.frozen 6
      have hS0 : ∀ b o, b < v2.heap.size → b ≠ g2 → v2.cell? ⟨b, o, none⟩ = v2.cell? ⟨b, o, none⟩ := fun b o hb hk => rfl
      go_region_held_law (fun w' => ∀ b o, b < v2.heap.size → b ≠ g2 → w'.cell? ⟨b, o, none⟩ = v2.cell? ⟨b, o, none⟩) (repeat' (first | with_reducible assumption | with_reducible exact hS0 | with_reducible refine hn_drew ?_ | with_reducible refine hn_set7 ?_ _ _ _ _ _ _ _)) (first | (go_at_call 42; refine (copyState_any A1 n1 c1 B1 m1 d1 ex et x0 x1 x2 p2 q2 _ (by first | with_reducible exact HP2.out | with_reducible exact Sl.drew HP2.out) (by first | with_reducible exact HQ2.out | with_reducible exact Sl.drew HQ2.out) HL1.out HR1.out (by have := HL1.out; omega) (by have := HR1.out; omega) HA1.out HB1.out).mono ?_; rintro e v3 ⟨A5, c5, B5, d5, rfl, R5, R6, hap, b3⟩; have E3 : Below v2.heap.size v2 v3 := (by first | with_reducible exact b3 | with_reducible exact tb_dr b3); have hS3 : ∀ b o, b < v2.heap.size → b ≠ g2 → v3.cell? ⟨b, o, none⟩ = v2.cell? ⟨b, o, none⟩ := fun b o hb hk => E3.cell (p := ⟨b, o, none⟩) hb; have Kr3 := Kr2.out.below E3; have yb0 := Kr3.cell 0; have yf0 := Kr3.frozen 0; have yb1 := Kr3.cell 1; have yf1 := Kr3.frozen 1; have yb2 := Kr3.cell 2; have yf2 := Kr3.frozen 2; have yb3 := Kr3.cell 3; have yf3 := Kr3.frozen 3; have yb4 := Kr3.cell 4; have yf4 := Kr3.frozen 4; have yb5 := Kr3.cell 5; have yf5 := Kr3.frozen 5; have yb6 := Kr3.cell 6; have yf6 := Kr3.frozen 6; have yl := Kr3.lt))
      all_goals
        go_wp21
        refine bodyPost_ret (v := .tuple #[.agg #[.int .i64 ex, .int .i64 et, .slice A5 n1 c5, .slice B5 m1 d5, .int .i64 x0, .int .i64 x1, .int .i64 x2], .int .i64 3]) (by simp [results, Tryz.results43, go_sem, *]) rfl ?_
        have h5 := R5.mono (show w.heap.size ≤ _ from F2.out.size)
        have h6 := R6.mono (show w.heap.size ≤ _ from F2.out.size)
        have n5 : ∀ a, A5 = some a → a.block ≠ g2 := fun a ha => by have := R5.ge a ha; (try simp at this); omega
        have n6 : ∀ a, B5 = some a → a.block ≠ g2 := fun a ha => by have := R6.ge a ha; (try simp at this); omega
        exact RetStateV.mk HL1.out HR1.out (row_far7 h5 n5 _ _ _ _ _ _ _) (row_far7 h6 n6 _ _ _ _ _ _ _) hap (below_far7 (bthen F2.out E3) (show w.heap.size ≤ g2 by omega) _ _ _ _ _ _ _)
end Go.Proofs.YtokklkmibjpjnaaGreat
namespace Go.Proofs.YtokklkmibjpjnaaGreat
set_option linter.unusedSimpArgs false
set_option linter.unusedVariables false
attribute [local go_sem] n_lt2 n_lt3 n_lt4 n_le2 n_le3
open Go.RowKit
attribute [local go_sem] Ext.cell Ext.frozen
set_option maxRecDepth 100000 in
set_option maxHeartbeats 8000000 in
theorem applied_yes4 (A : Option Addr) (n c : Nat) (B : Option Addr) (m d : Nat) (i0 t0 l0 l1 l2 : Int) (pl : List Pr) (ql : List Jb) (ex et ec es ea eb eg eh : Int) (w : World) (hP : Sl w 2 A n (PR pl)) (hQ : Sl w 5 B m (JB ql)) (hl : pl.length = n) (hr : ql.length = m) (hn : n ≤ 1000) (hm : m ≤ 1000) (hA : A = none → n = 0 ∧ c = 0) (hB : B = none → m = 0 ∧ d = 0) (p2 : List Pr) (q2 : List Jb) (h2 e2 u2 : Int) (hp2 : p2.length ≤ 1000) (hq2 : q2.length ≤ 1000) (hE : Hid (effE l0 l1 l2 pl ql ex et ec es 4 ea eb eg eh = (⟨p2, q2, h2, e2, u2⟩, true))) :
    Calls Tryz.prog 43 #[.agg #[.int .i64 i0, .int .i64 t0, .slice A n c, .slice B m d, .int .i64 l0, .int .i64 l1, .int .i64 l2], .agg #[.int .i64 ex, .int .i64 et, .int .i64 ec, .int .i64 es, .int .i64 4, .int .i64 ea, .int .i64 eb, .int .i64 eg, .int .i64 eh]] w (RetStateV w ex et h2 e2 u2 p2.length (PR p2) q2.length (JB q2) (.int .i64 4)) := by
  have HP := Lib.hid hP
  have HQ := Lib.hid hQ
  have HA := Lib.hid hA
  have HB := Lib.hid hB
  have hL := Lib.hid hl
  have hR := Lib.hid hr
  clear hP hQ hA hB hl hr
  go_enter Tryz.func43, Tryz.ntmps43
  go_upto_region 1 with fail
  obtain ⟨v0, hv0⟩ : ∃ x : World, x = (((w.alloc (.cells #[.int .i64 i0, .int .i64 t0, .slice A n c, .slice B m d, .int .i64 l0, .int .i64 l1, .int .i64 l2] 37)).alloc (.cells #[.int .i64 ex, .int .i64 et, .int .i64 ec, .int .i64 es, .int .i64 4, .int .i64 ea, .int .i64 eb, .int .i64 eg, .int .i64 eh] 43)).alloc (.cells #[.int .i64 0, .int .i64 0, .slice none 0 0, .slice none 0 0, .int .i64 0, .int .i64 0, .int .i64 0] 37)) := ⟨_, rfl⟩
  rw [← hv0]
  have f0 : Below w.heap.size w v0 := by rw [hv0]; (repeat' (first | (with_reducible exact Below.refl _ _) | (with_reducible assumption) | (with_reducible refine Below.alloc ?_ ?_ _) | (with_reducible refine Below.drew ?_) | (with_reducible refine Below.setCell ?_ ?_ _) | (with_reducible refine bstep (by assumption) ?_ ?_) | (with_reducible exact Nat.le_refl _) | omega | (simp [*]; done) | (simp [*]; omega)))
  have z0 : w.heap.size + 3 ≤ v0.heap.size := by rw [hv0]; simp [size_set]
  have HP_0 := Lib.hid (HP.out.below f0)
  have HP_lt := Lib.hid (fun hn => HP.out.lt hn)
  have HQ_0 := Lib.hid (HQ.out.below f0)
  have HQ_lt := Lib.hid (fun hn => HQ.out.lt hn)
  have Ha_0 : Hid (Blk v0 w.heap.size 37 #[.int .i64 i0, .int .i64 t0, .slice A n c, .slice B m d, .int .i64 l0, .int .i64 l1, .int .i64 l2]) := by rw [hv0]; exact ((Blk.new_at _ _ _ _ (by simp)).alloc _).alloc _
  have Hb_0 : Hid (Blk v0 (w.heap.size + 1) 43 #[.int .i64 ex, .int .i64 et, .int .i64 ec, .int .i64 es, .int .i64 4, .int .i64 ea, .int .i64 eb, .int .i64 eg, .int .i64 eh]) := by rw [hv0]; exact (Blk.new_at _ _ _ _ (by simp)).alloc _
  have Hr_0 : Hid (Blk v0 (w.heap.size + 1 + 1) 37 #[.int .i64 0, .int .i64 0, .slice none 0 0, .slice none 0 0, .int .i64 0, .int .i64 0, .int .i64 0]) := by rw [hv0]; exact Blk.new_at _ _ _ _ (by simp)
  clear hv0
  generalize hg2 : w.heap.size + 1 + 1 = g2 at *
  generalize hg1 : w.heap.size + 1 = g1 at *
  have lg1 : w.heap.size < g1 := by omega
  have lg2 : g1 < g2 := by omega
  have lgz : g2 < v0.heap.size := by omega
  have nq1x0 : ¬ g1 = w.heap.size := by omega
  have nq0x1 : ¬ w.heap.size = g1 := by omega
  have nq2x0 : ¬ g2 = w.heap.size := by omega
  have nq0x2 : ¬ w.heap.size = g2 := by omega
  have nq2x1 : ¬ g2 = g1 := by omega
  have nq1x2 : ¬ g1 = g2 := by omega
  clear hg1 hg2
  have lt_a := Ha_0.out.lt
  have r_a0 : v0.cell? ⟨w.heap.size, 0, none⟩ = some (.int .i64 i0) := Ha_0.out.cell 0
  have r_a1 : v0.cell? ⟨w.heap.size, 1, none⟩ = some (.int .i64 t0) := Ha_0.out.cell 1
  have r_a2 : v0.cell? ⟨w.heap.size, 2, none⟩ = some (.slice A n c) := Ha_0.out.cell 2
  have r_a3 : v0.cell? ⟨w.heap.size, 3, none⟩ = some (.slice B m d) := Ha_0.out.cell 3
  have r_a4 : v0.cell? ⟨w.heap.size, 4, none⟩ = some (.int .i64 l0) := Ha_0.out.cell 4
  have r_a5 : v0.cell? ⟨w.heap.size, 5, none⟩ = some (.int .i64 l1) := Ha_0.out.cell 5
  have r_a6 : v0.cell? ⟨w.heap.size, 6, none⟩ = some (.int .i64 l2) := Ha_0.out.cell 6
  have lt_b := Hb_0.out.lt
  have r_b0 : v0.cell? ⟨g1, 0, none⟩ = some (.int .i64 ex) := Hb_0.out.cell 0
  have r_b1 : v0.cell? ⟨g1, 1, none⟩ = some (.int .i64 et) := Hb_0.out.cell 1
  have r_b2 : v0.cell? ⟨g1, 2, none⟩ = some (.int .i64 ec) := Hb_0.out.cell 2
  have r_b3 : v0.cell? ⟨g1, 3, none⟩ = some (.int .i64 es) := Hb_0.out.cell 3
  have r_b4 : v0.cell? ⟨g1, 4, none⟩ = some (.int .i64 4) := Hb_0.out.cell 4
  have r_b5 : v0.cell? ⟨g1, 5, none⟩ = some (.int .i64 ea) := Hb_0.out.cell 5
  have r_b6 : v0.cell? ⟨g1, 6, none⟩ = some (.int .i64 eb) := Hb_0.out.cell 6
  have r_b7 : v0.cell? ⟨g1, 7, none⟩ = some (.int .i64 eg) := Hb_0.out.cell 7
  have r_b8 : v0.cell? ⟨g1, 8, none⟩ = some (.int .i64 eh) := Hb_0.out.cell 8
  go_cut [6, 7] (fun pv ov wx => ∃ (g : Nat) (A1 : Option Addr) (n1 c1 : Nat) (B1 : Option Addr) (m1 d1 : Nat) (x0 x1 x2 : Int), pv = .pointer (some ⟨g, 0, none⟩) ∧ ov = .bool true ∧ g2 < g ∧ v0.heap.size ≤ g ∧ Hid (Blk wx g 37 #[.int .i64 i0, .int .i64 t0, .slice A1 n1 c1, .slice B1 m1 d1, .int .i64 x0, .int .i64 x1, .int .i64 x2]) ∧ Hid (Below v0.heap.size v0 wx) ∧ Hid (x0 = h2 ∧ x1 = e2 ∧ x2 = u2) ∧ Hid (Sl wx 2 A1 n1 (PR p2)) ∧ Hid (p2.length = n1) ∧ Hid (A1 = none → n1 = 0 ∧ c1 = 0) ∧ Hid (Sl wx 5 B1 m1 (JB q2)) ∧ Hid (q2.length = m1) ∧ Hid (B1 = none → m1 = 0 ∧ d1 = 0) ∧ Hid (0 < n1 → ∀ a, A1 = some a → a.block ≠ g) ∧ Hid (0 < m1 → ∀ a, B1 = some a → a.block ≠ g))
  case first =>
    have hnm : n ≤ maxLen := by unfold maxLen; omega
    have hmm : m ≤ maxLen := by unfold maxLen; omega
    have hS0 : ∀ b o, b < v0.heap.size → v0.cell? ⟨b, o, none⟩ = v0.cell? ⟨b, o, none⟩ := fun b o hb => rfl
    have ix : ∀ wz : World, (Instr.index 116 (.agg #[.nilFunc, .func (.func 97) #[] #[], .func (.func 99) #[] #[], .func (.func 101) #[] #[], .func (.func 103) #[] #[], .func (.func 107) #[] #[]]) (.int .i64 4)).run Tryz.prog wz = .ok (.func (.func 103) #[] #[]) wz := fun _ => by kernel_rfl
    go_region_held_law (fun w' => ∀ b o, b < v0.heap.size → w'.cell? ⟨b, o, none⟩ = v0.cell? ⟨b, o, none⟩) (repeat' (first | with_reducible assumption | with_reducible exact Nat.le_refl _ | with_reducible exact hS0 | with_reducible refine hl_drew ?_ | with_reducible refine hl_alloc ?_ ?_ _ | with_reducible refine hl_set7 ?_ ?_ _ _ _ _ _ _ _)) (first | (go_at_call 82; refine (effects_any _).mono ?_; rintro e u1 ⟨rfl, b1⟩; (first | (have KB : Blk u1 v0.heap.size 37 #[.int .i64 0, .int .i64 0, .slice none 0 0, .slice none 0 0, .int .i64 0, .int .i64 0, .int .i64 0] := by with_reducible exact t_below2 b1 (Blk.new_at _ _ _ _ rfl)) | (have KB : Blk u1 v0.heap.size 37 #[.int .i64 0, .int .i64 0, .slice none 0 0, .slice none 0 0, .int .i64 0, .int .i64 0, .int .i64 0] := by with_reducible exact t_below2 b1 (Blk.drew (Blk.new_at _ _ _ _ rfl))) | (have KB : Blk u1 v0.heap.size 37 #[.int .i64 0, .int .i64 0, .slice none 0 0, .slice none 0 0, .int .i64 0, .int .i64 0, .int .i64 0] := by with_reducible exact t_below2 b1 (Blk.new_at _ _ _ _ (t_drew_size _))) | (replace KB := t_below2 b1 KB) | (replace KB := t_below2 b1 (Blk.drew KB)) | skip); have E1 : Below v0.heap.size v0 u1 := (by first | with_reducible exact b1 | with_reducible exact tb_dr b1 | with_reducible exact tb_al b1 | with_reducible exact tb_da b1 | with_reducible exact tb_ad b1); have H1 := E1; have y1 := H1.size; have hS1 : ∀ b o, b < v0.heap.size → u1.cell? ⟨b, o, none⟩ = v0.cell? ⟨b, o, none⟩ := fun b o hb => H1.cell (p := ⟨b, o, none⟩) hb; have HPu := Lib.hid (HP_0.out.below E1); have HQu := Lib.hid (HQ_0.out.below E1)) | (go_at_call 103; refine (eff4_R A n c B m d i0 t0 l0 l1 l2 pl ql ex et ec es ea eb eg eh _ (by first | with_reducible exact HPu.out | with_reducible exact Sl.alloc HPu.out _) (by first | with_reducible exact HQu.out | with_reducible exact Sl.alloc HQu.out _) hL.out hR.out hnm hmm HA.out HB.out w.heap.size HP_lt.out HQ_lt.out p2 q2 h2 e2 u2 true hE).mono ?_; rintro e u2_ ⟨A1, n1, c1, B1, m1, d1, x0, x1, x2, rfl, b2, hx⟩; obtain ⟨hx0, hx1, hx2, hP1, hl1, hA1, hQ1, hr1, hB1, hL1, hL2⟩ := hx rfl; (first | (have KB : Blk u2_ u1.heap.size 37 #[.int .i64 0, .int .i64 0, .slice none 0 0, .slice none 0 0, .int .i64 0, .int .i64 0, .int .i64 0] := by with_reducible exact t_below2 b2 (Blk.new_at _ _ _ _ rfl)) | (have KB : Blk u2_ u1.heap.size 37 #[.int .i64 0, .int .i64 0, .slice none 0 0, .slice none 0 0, .int .i64 0, .int .i64 0, .int .i64 0] := by with_reducible exact t_below2 b2 (Blk.drew (Blk.new_at _ _ _ _ rfl))) | (have KB : Blk u2_ u1.heap.size 37 #[.int .i64 0, .int .i64 0, .slice none 0 0, .slice none 0 0, .int .i64 0, .int .i64 0, .int .i64 0] := by with_reducible exact t_below2 b2 (Blk.new_at _ _ _ _ (t_drew_size _))) | (replace KB := t_below2 b2 KB) | (replace KB := t_below2 b2 (Blk.drew KB)) | skip); have E2 : Below u1.heap.size u1 u2_ := (by first | with_reducible exact b2 | with_reducible exact tb_dr b2 | with_reducible exact tb_al b2 | with_reducible exact tb_da b2 | with_reducible exact tb_ad b2); have H2 := bthen H1 E2; have y2 := H2.size; have hS2 : ∀ b o, b < v0.heap.size → u2_.cell? ⟨b, o, none⟩ = v0.cell? ⟨b, o, none⟩ := fun b o hb => H2.cell (p := ⟨b, o, none⟩) hb; (try (have kb0 := KB.cell 0)); (try (have kf0 := KB.frozen 0)); (try (have kb1 := KB.cell 1)); (try (have kf1 := KB.frozen 1)); (try (have kb2 := KB.cell 2)); (try (have kf2 := KB.frozen 2)); (try (have kb3 := KB.cell 3)); (try (have kf3 := KB.frozen 3)); (try (have kb4 := KB.cell 4)); (try (have kf4 := KB.frozen 4)); (try (have kb5 := KB.cell 5)); (try (have kf5 := KB.frozen 5)); (try (have kb6 := KB.cell 6)); (try (have kf6 := KB.frozen 6)); (try (have kbl := KB.lt))))
    all_goals
      have s1 := b1.size
      have s2 := b2.size
      (try simp only [t_size_alloc, ← t_drew_size] at s1)
      (try simp only [t_size_alloc, ← t_drew_size] at s2)
      go_wp2_with fail
      go_meet
      first
        | (with_reducible refine ⟨u2_.heap.size, A1, n1, c1, B1, m1, d1, h2, e2, u2, rfl, rfl, ?_, ?_, ?_, ?_, ?_, ?_, ?_, ?_, ?_, ?_, ?_, ?_, ?_⟩
           · omega
           · omega
           · exact Lib.hid (Blk.new_at _ _ _ _ rfl)
           · exact Lib.hid (H2.alloc y2 _)
           · exact Lib.hid ⟨rfl, rfl, rfl⟩
           · exact Lib.hid (hP1.alloc _)
           · exact Lib.hid hl1
           · exact Lib.hid hA1
           · exact Lib.hid (hQ1.alloc _)
           · exact Lib.hid hr1
           · exact Lib.hid hB1
           · exact (Lib.hid (fun h0 a ha => by have hA := (hP1).lt h0 a ha; have hB := hL1 h0 a ha; have hC := lgz; (try simp only [t_size_alloc] at hB); omega))
           · exact (Lib.hid (fun h0 a ha => by have hA := (hQ1).lt h0 a ha; have hB := hL2 h0 a ha; have hC := lgz; (try simp only [t_size_alloc] at hB); omega)))
        | (with_reducible refine ⟨u1.heap.size, A1, n1, c1, B1, m1, d1, h2, e2, u2, rfl, rfl, ?_, ?_, ?_, ?_, ?_, ?_, ?_, ?_, ?_, ?_, ?_, ?_, ?_⟩
           · omega
           · omega
           · exact Lib.hid (((((((KB.set_ 0 _).set_ 1 _).set_ 2 _).set_ 3 _).set_ 4 _).set_ 5 _).set_ 6 _)
           · exact Lib.hid (below_far7 H2 (by omega) _ _ _ _ _ _ _)
           · exact Lib.hid ⟨rfl, rfl, rfl⟩
           · exact Lib.hid (sl_far7 hP1 (fun h0 a ha => by have hA := (hP1).lt h0 a ha; have hB := hL1 h0 a ha; have hC := lgz; (try simp only [t_size_alloc] at hB); omega) _ _ _ _ _ _ _)
           · exact Lib.hid hl1
           · exact Lib.hid hA1
           · exact Lib.hid (sl_far7 hQ1 (fun h0 a ha => by have hA := (hQ1).lt h0 a ha; have hB := hL2 h0 a ha; have hC := lgz; (try simp only [t_size_alloc] at hB); omega) _ _ _ _ _ _ _)
           · exact Lib.hid hr1
           · exact Lib.hid hB1
           · exact (Lib.hid (fun h0 a ha => by have hA := (hP1).lt h0 a ha; have hB := hL1 h0 a ha; have hC := lgz; (try simp only [t_size_alloc] at hB); omega))
           · exact (Lib.hid (fun h0 a ha => by have hA := (hQ1).lt h0 a ha; have hB := hL2 h0 a ha; have hC := lgz; (try simp only [t_size_alloc] at hB); omega)))
        | (with_reducible refine ⟨v0.heap.size, A1, n1, c1, B1, m1, d1, h2, e2, u2, rfl, rfl, ?_, ?_, ?_, ?_, ?_, ?_, ?_, ?_, ?_, ?_, ?_, ?_, ?_⟩
           · omega
           · omega
           · exact Lib.hid (((((((KB.set_ 0 _).set_ 1 _).set_ 2 _).set_ 3 _).set_ 4 _).set_ 5 _).set_ 6 _)
           · exact Lib.hid (below_far7 H2 (by omega) _ _ _ _ _ _ _)
           · exact Lib.hid ⟨rfl, rfl, rfl⟩
           · exact Lib.hid (sl_far7 hP1 (fun h0 a ha => by have hA := (hP1).lt h0 a ha; have hB := hL1 h0 a ha; have hC := lgz; (try simp only [t_size_alloc] at hB); omega) _ _ _ _ _ _ _)
           · exact Lib.hid hl1
           · exact Lib.hid hA1
           · exact Lib.hid (sl_far7 hQ1 (fun h0 a ha => by have hA := (hQ1).lt h0 a ha; have hB := hL2 h0 a ha; have hC := lgz; (try simp only [t_size_alloc] at hB); omega) _ _ _ _ _ _ _)
           · exact Lib.hid hr1
           · exact Lib.hid hB1
           · exact (Lib.hid (fun h0 a ha => by have hA := (hP1).lt h0 a ha; have hB := hL1 h0 a ha; have hC := lgz; (try simp only [t_size_alloc] at hB); omega))
           · exact (Lib.hid (fun h0 a ha => by have hA := (hQ1).lt h0 a ha; have hB := hL2 h0 a ha; have hC := lgz; (try simp only [t_size_alloc] at hB); omega)))
  case rest =>
    obtain ⟨g, A1, n1, c1, B1, m1, d1, x0, x1, x2, rfl, rfl, hg2, hgz, KX, E1, HX, HP1, HL1, HA1, HQ1, HR1, HB1, HN1, HN2⟩ := hcut
    rename World => v1
    obtain ⟨hx0, hx1, hx2⟩ := HX.out
    subst hx0 hx1 hx2
    clear HX
    clear lt_a r_a0 r_a1 r_a2 r_a3 r_a4 r_a5 r_a6 lt_b r_b0 r_b1 r_b2 r_b3 r_b4 r_b5 r_b6 r_b7 r_b8
    have F1 := Lib.hid (bthen f0 E1.out)
    have y1 := E1.out.size
    have Kb := Lib.hid (Hb_0.out.below E1.out)
    have Kr := Lib.hid (Hr_0.out.below E1.out)
    clear Ha_0 Hb_0 Hr_0 HP_0 HQ_0 HP_lt HQ_lt HP HQ HA HB hL hR
    go_upto_region 4 with fail
    have lt_b := Kb.out.lt
    have r_b0 : v1.cell? ⟨g1, 0, none⟩ = some (.int .i64 ex) := Kb.out.cell 0
    have r_b1 : v1.cell? ⟨g1, 1, none⟩ = some (.int .i64 et) := Kb.out.cell 1
    have r_b2 : v1.cell? ⟨g1, 2, none⟩ = some (.int .i64 ec) := Kb.out.cell 2
    have r_b3 : v1.cell? ⟨g1, 3, none⟩ = some (.int .i64 es) := Kb.out.cell 3
    have r_b4 : v1.cell? ⟨g1, 4, none⟩ = some (.int .i64 4) := Kb.out.cell 4
    have r_b5 : v1.cell? ⟨g1, 5, none⟩ = some (.int .i64 ea) := Kb.out.cell 5
    have r_b6 : v1.cell? ⟨g1, 6, none⟩ = some (.int .i64 eb) := Kb.out.cell 6
    have r_b7 : v1.cell? ⟨g1, 7, none⟩ = some (.int .i64 eg) := Kb.out.cell 7
    have r_b8 : v1.cell? ⟨g1, 8, none⟩ = some (.int .i64 eh) := Kb.out.cell 8
    have lt_x := KX.out.lt
    have r_x0 : v1.cell? ⟨g, 0, none⟩ = some (.int .i64 i0) := KX.out.cell 0
    have z_x0 := KX.out.frozen 0
    have r_x1 : v1.cell? ⟨g, 1, none⟩ = some (.int .i64 t0) := KX.out.cell 1
    have z_x1 := KX.out.frozen 1
    have r_x2 : v1.cell? ⟨g, 2, none⟩ = some (.slice A1 n1 c1) := KX.out.cell 2
    have z_x2 := KX.out.frozen 2
    have r_x3 : v1.cell? ⟨g, 3, none⟩ = some (.slice B1 m1 d1) := KX.out.cell 3
    have z_x3 := KX.out.frozen 3
    have r_x4 : v1.cell? ⟨g, 4, none⟩ = some (.int .i64 x0) := KX.out.cell 4
    have z_x4 := KX.out.frozen 4
    have r_x5 : v1.cell? ⟨g, 5, none⟩ = some (.int .i64 x1) := KX.out.cell 5
    have z_x5 := KX.out.frozen 5
    have r_x6 : v1.cell? ⟨g, 6, none⟩ = some (.int .i64 x2) := KX.out.cell 6
    have z_x6 := KX.out.frozen 6
    have ngb : ¬ g = g1 := by omega
    have nbg : ¬ g1 = g := by omega
    go_cut [] (fun wx => Hid (Blk wx g 37 #[.int .i64 ex, .int .i64 et, .slice A1 n1 c1, .slice B1 m1 d1, .int .i64 x0, .int .i64 x1, .int .i64 x2]) ∧ Hid (Below w.heap.size w wx) ∧ Hid (Blk wx g1 43 #[.int .i64 ex, .int .i64 et, .int .i64 ec, .int .i64 es, .int .i64 4, .int .i64 ea, .int .i64 eb, .int .i64 eg, .int .i64 eh]) ∧ Hid (Blk wx g2 37 #[.int .i64 0, .int .i64 0, .slice none 0 0, .slice none 0 0, .int .i64 0, .int .i64 0, .int .i64 0]) ∧ Hid (Sl wx 2 A1 n1 (PR p2)) ∧ Hid (Sl wx 5 B1 m1 (JB q2)))
    case first =>
      have hS0 : ∀ b o, b < g → v1.cell? ⟨b, o, none⟩ = v1.cell? ⟨b, o, none⟩ := fun b o hb => rfl
      have lbg : g1 < g := by omega
      go_region_held_law (fun w' => ∀ b o, b < g → w'.cell? ⟨b, o, none⟩ = v1.cell? ⟨b, o, none⟩) (repeat' (first | with_reducible assumption | with_reducible exact Nat.le_refl _ | with_reducible exact hS0 | with_reducible refine hl_drew ?_ | with_reducible refine hl_set ?_ ?_ _ _)) (fail)
      all_goals
        go_wp2_with fail
        go_meet
        first
          | exact ⟨Lib.hid (((KX.out.drew).set_ 0 _).set_ 1 _), Lib.hid (((F1.out.drew).setCell (p := ⟨g, 0, none⟩) (by show w.heap.size ≤ g; omega) _).setCell (p := ⟨g, 1, none⟩) (by show w.heap.size ≤ g; omega) _), Lib.hid (((Kb.out.drew).far (p := ⟨g, 0, none⟩) (show g1 ≠ g by omega) _).far (p := ⟨g, 1, none⟩) (show g1 ≠ g by omega) _), Lib.hid (((Kr.out.drew).far (p := ⟨g, 0, none⟩) (show g2 ≠ g by omega) _).far (p := ⟨g, 1, none⟩) (show g2 ≠ g by omega) _), Lib.hid (((HP1.out.drew).far (p := ⟨g, 0, none⟩) (fun h0 a ha => HN1.out h0 a ha) _).far (p := ⟨g, 1, none⟩) (fun h0 a ha => HN1.out h0 a ha) _), Lib.hid (((HQ1.out.drew).far (p := ⟨g, 0, none⟩) (fun h0 a ha => HN2.out h0 a ha) _).far (p := ⟨g, 1, none⟩) (fun h0 a ha => HN2.out h0 a ha) _)⟩
          | exact ⟨Lib.hid (((KX.out.drew).set_ 1 _).set_ 0 _), Lib.hid (((F1.out.drew).setCell (p := ⟨g, 1, none⟩) (by show w.heap.size ≤ g; omega) _).setCell (p := ⟨g, 0, none⟩) (by show w.heap.size ≤ g; omega) _), Lib.hid (((Kb.out.drew).far (p := ⟨g, 1, none⟩) (show g1 ≠ g by omega) _).far (p := ⟨g, 0, none⟩) (show g1 ≠ g by omega) _), Lib.hid (((Kr.out.drew).far (p := ⟨g, 1, none⟩) (show g2 ≠ g by omega) _).far (p := ⟨g, 0, none⟩) (show g2 ≠ g by omega) _), Lib.hid (((HP1.out.drew).far (p := ⟨g, 1, none⟩) (fun h0 a ha => HN1.out h0 a ha) _).far (p := ⟨g, 0, none⟩) (fun h0 a ha => HN1.out h0 a ha) _), Lib.hid (((HQ1.out.drew).far (p := ⟨g, 1, none⟩) (fun h0 a ha => HN2.out h0 a ha) _).far (p := ⟨g, 0, none⟩) (fun h0 a ha => HN2.out h0 a ha) _)⟩
    case rest =>
      clear lt_b r_b0 r_b1 r_b2 r_b3 r_b4 r_b5 r_b6 r_b7 r_b8
      clear lt_x r_x0 z_x0 r_x1 z_x1 r_x2 z_x2 r_x3 z_x3 r_x4 z_x4 r_x5 z_x5 r_x6 z_x6
      obtain ⟨KX2, F2, Kb2, Kr2, HP2, HQ2⟩ := hcut
      rename World => v2
      clear KX
      clear Kb Kr HP1 HQ1
      go_upto_region 7 with fail
      have ngr : ¬ g = g2 := by omega
      have nbr : ¬ g1 = g2 := by omega
      have lt_b := Kb2.out.lt
      have r_b0 : v2.cell? ⟨g1, 0, none⟩ = some (.int .i64 ex) := Kb2.out.cell 0
      have r_b1 : v2.cell? ⟨g1, 1, none⟩ = some (.int .i64 et) := Kb2.out.cell 1
      have r_b2 : v2.cell? ⟨g1, 2, none⟩ = some (.int .i64 ec) := Kb2.out.cell 2
      have r_b3 : v2.cell? ⟨g1, 3, none⟩ = some (.int .i64 es) := Kb2.out.cell 3
      have r_b4 : v2.cell? ⟨g1, 4, none⟩ = some (.int .i64 4) := Kb2.out.cell 4
      have r_b5 : v2.cell? ⟨g1, 5, none⟩ = some (.int .i64 ea) := Kb2.out.cell 5
      have r_b6 : v2.cell? ⟨g1, 6, none⟩ = some (.int .i64 eb) := Kb2.out.cell 6
      have r_b7 : v2.cell? ⟨g1, 7, none⟩ = some (.int .i64 eg) := Kb2.out.cell 7
      have r_b8 : v2.cell? ⟨g1, 8, none⟩ = some (.int .i64 eh) := Kb2.out.cell 8
      have lt_x := KX2.out.lt
      have r_x0 : v2.cell? ⟨g, 0, none⟩ = some (.int .i64 ex) := KX2.out.cell 0
      have z_x0 := KX2.out.frozen 0
      have r_x1 : v2.cell? ⟨g, 1, none⟩ = some (.int .i64 et) := KX2.out.cell 1
      have z_x1 := KX2.out.frozen 1
      have r_x2 : v2.cell? ⟨g, 2, none⟩ = some (.slice A1 n1 c1) := KX2.out.cell 2
      have z_x2 := KX2.out.frozen 2
      have r_x3 : v2.cell? ⟨g, 3, none⟩ = some (.slice B1 m1 d1) := KX2.out.cell 3
      have z_x3 := KX2.out.frozen 3
      have r_x4 : v2.cell? ⟨g, 4, none⟩ = some (.int .i64 x0) := KX2.out.cell 4
      have z_x4 := KX2.out.frozen 4
      have r_x5 : v2.cell? ⟨g, 5, none⟩ = some (.int .i64 x1) := KX2.out.cell 5
      have z_x5 := KX2.out.frozen 5
      have r_x6 : v2.cell? ⟨g, 6, none⟩ = some (.int .i64 x2) := KX2.out.cell 6
      have z_x6 := KX2.out.frozen 6
      have lt_r := Kr2.out.lt
      have r_r0 : v2.cell? ⟨g2, 0, none⟩ = some (.int .i64 0) := Kr2.out.cell 0
      have z_r0 := Kr2.out.frozen 0
      have r_r1 : v2.cell? ⟨g2, 1, none⟩ = some (.int .i64 0) := Kr2.out.cell 1
      have z_r1 := Kr2.out.frozen 1
      have r_r2 : v2.cell? ⟨g2, 2, none⟩ = some (.slice none 0 0) := Kr2.out.cell 2
      have z_r2 := Kr2.out.frozen 2
      have r_r3 : v2.cell? ⟨g2, 3, none⟩ = some (.slice none 0 0) := Kr2.out.cell 3
      have z_r3 := Kr2.out.frozen 3
      have r_r4 : v2.cell? ⟨g2, 4, none⟩ = some (.int .i64 0) := Kr2.out.cell 4
      have z_r4 := Kr2.out.frozen 4
      have r_r5 : v2.cell? ⟨g2, 5, none⟩ = some (.int .i64 0) := Kr2.out.cell 5
      have z_r5 := Kr2.out.frozen 5
      have r_r6 : v2.cell? ⟨g2, 6, none⟩ = some (.int .i64 0) := Kr2.out.cell 6
      have z_r6 := Kr2.out.frozen 6
      have hS0 : ∀ b o, b < v2.heap.size → b ≠ g2 → v2.cell? ⟨b, o, none⟩ = v2.cell? ⟨b, o, none⟩ := fun b o hb hk => rfl
      go_region_held_law (fun w' => ∀ b o, b < v2.heap.size → b ≠ g2 → w'.cell? ⟨b, o, none⟩ = v2.cell? ⟨b, o, none⟩) (repeat' (first | with_reducible assumption | with_reducible exact hS0 | with_reducible refine hn_drew ?_ | with_reducible refine hn_set7 ?_ _ _ _ _ _ _ _)) (first | (go_at_call 42; refine (copyState_any A1 n1 c1 B1 m1 d1 ex et x0 x1 x2 p2 q2 _ (by first | with_reducible exact HP2.out | with_reducible exact Sl.drew HP2.out) (by first | with_reducible exact HQ2.out | with_reducible exact Sl.drew HQ2.out) HL1.out HR1.out (by have := HL1.out; omega) (by have := HR1.out; omega) HA1.out HB1.out).mono ?_; rintro e v3 ⟨A5, c5, B5, d5, rfl, R5, R6, hap, b3⟩; have E3 : Below v2.heap.size v2 v3 := (by first | with_reducible exact b3 | with_reducible exact tb_dr b3); have hS3 : ∀ b o, b < v2.heap.size → b ≠ g2 → v3.cell? ⟨b, o, none⟩ = v2.cell? ⟨b, o, none⟩ := fun b o hb hk => E3.cell (p := ⟨b, o, none⟩) hb; have Kr3 := Kr2.out.below E3; have yb0 := Kr3.cell 0; have yf0 := Kr3.frozen 0; have yb1 := Kr3.cell 1; have yf1 := Kr3.frozen 1; have yb2 := Kr3.cell 2; have yf2 := Kr3.frozen 2; have yb3 := Kr3.cell 3; have yf3 := Kr3.frozen 3; have yb4 := Kr3.cell 4; have yf4 := Kr3.frozen 4; have yb5 := Kr3.cell 5; have yf5 := Kr3.frozen 5; have yb6 := Kr3.cell 6; have yf6 := Kr3.frozen 6; have yl := Kr3.lt))
      all_goals
        go_wp21
        refine bodyPost_ret (v := .tuple #[.agg #[.int .i64 ex, .int .i64 et, .slice A5 n1 c5, .slice B5 m1 d5, .int .i64 x0, .int .i64 x1, .int .i64 x2], .int .i64 4]) (by simp [results, Tryz.results43, go_sem, *]) rfl ?_
        have h5 := R5.mono (show w.heap.size ≤ _ from F2.out.size)
        have h6 := R6.mono (show w.heap.size ≤ _ from F2.out.size)
        have n5 : ∀ a, A5 = some a → a.block ≠ g2 := fun a ha => by have := R5.ge a ha; (try simp at this); omega
        have n6 : ∀ a, B5 = some a → a.block ≠ g2 := fun a ha => by have := R6.ge a ha; (try simp at this); omega
        exact RetStateV.mk HL1.out HR1.out (row_far7 h5 n5 _ _ _ _ _ _ _) (row_far7 h6 n6 _ _ _ _ _ _ _) hap (below_far7 (bthen F2.out E3) (show w.heap.size ≤ g2 by omega) _ _ _ _ _ _ _)
end Go.Proofs.YtokklkmibjpjnaaGreat
namespace Go.Proofs.YtokklkmibjpjnaaGreat
set_option linter.unusedSimpArgs false
set_option linter.unusedVariables false
attribute [local go_sem] n_lt2 n_lt3 n_lt4 n_le2 n_le3
open Go.RowKit
attribute [local go_sem] Ext.cell Ext.frozen
set_option maxRecDepth 100000 in
set_option maxHeartbeats 8000000 in
theorem applied_yes5 (A : Option Addr) (n c : Nat) (B : Option Addr) (m d : Nat) (i0 t0 l0 l1 l2 : Int) (pl : List Pr) (ql : List Jb) (ex et ec es ea eb eg eh : Int) (w : World) (hP : Sl w 2 A n (PR pl)) (hQ : Sl w 5 B m (JB ql)) (hl : pl.length = n) (hr : ql.length = m) (hn : n ≤ 1000) (hm : m ≤ 1000) (hA : A = none → n = 0 ∧ c = 0) (hB : B = none → m = 0 ∧ d = 0) (p2 : List Pr) (q2 : List Jb) (h2 e2 u2 : Int) (hp2 : p2.length ≤ 1000) (hq2 : q2.length ≤ 1000) (hE : Hid (effE l0 l1 l2 pl ql ex et ec es 5 ea eb eg eh = (⟨p2, q2, h2, e2, u2⟩, true))) :
    Calls Tryz.prog 43 #[.agg #[.int .i64 i0, .int .i64 t0, .slice A n c, .slice B m d, .int .i64 l0, .int .i64 l1, .int .i64 l2], .agg #[.int .i64 ex, .int .i64 et, .int .i64 ec, .int .i64 es, .int .i64 5, .int .i64 ea, .int .i64 eb, .int .i64 eg, .int .i64 eh]] w (RetStateV w ex et h2 e2 u2 p2.length (PR p2) q2.length (JB q2) (.int .i64 5)) := by
  have HP := Lib.hid hP
  have HQ := Lib.hid hQ
  have HA := Lib.hid hA
  have HB := Lib.hid hB
  have hL := Lib.hid hl
  have hR := Lib.hid hr
  clear hP hQ hA hB hl hr
  go_enter Tryz.func43, Tryz.ntmps43
  go_upto_region 1 with fail
  obtain ⟨v0, hv0⟩ : ∃ x : World, x = (((w.alloc (.cells #[.int .i64 i0, .int .i64 t0, .slice A n c, .slice B m d, .int .i64 l0, .int .i64 l1, .int .i64 l2] 37)).alloc (.cells #[.int .i64 ex, .int .i64 et, .int .i64 ec, .int .i64 es, .int .i64 5, .int .i64 ea, .int .i64 eb, .int .i64 eg, .int .i64 eh] 43)).alloc (.cells #[.int .i64 0, .int .i64 0, .slice none 0 0, .slice none 0 0, .int .i64 0, .int .i64 0, .int .i64 0] 37)) := ⟨_, rfl⟩
  rw [← hv0]
  have f0 : Below w.heap.size w v0 := by rw [hv0]; (repeat' (first | (with_reducible exact Below.refl _ _) | (with_reducible assumption) | (with_reducible refine Below.alloc ?_ ?_ _) | (with_reducible refine Below.drew ?_) | (with_reducible refine Below.setCell ?_ ?_ _) | (with_reducible refine bstep (by assumption) ?_ ?_) | (with_reducible exact Nat.le_refl _) | omega | (simp [*]; done) | (simp [*]; omega)))
  have z0 : w.heap.size + 3 ≤ v0.heap.size := by rw [hv0]; simp [size_set]
  have HP_0 := Lib.hid (HP.out.below f0)
  have HP_lt := Lib.hid (fun hn => HP.out.lt hn)
  have HQ_0 := Lib.hid (HQ.out.below f0)
  have HQ_lt := Lib.hid (fun hn => HQ.out.lt hn)
  have Ha_0 : Hid (Blk v0 w.heap.size 37 #[.int .i64 i0, .int .i64 t0, .slice A n c, .slice B m d, .int .i64 l0, .int .i64 l1, .int .i64 l2]) := by rw [hv0]; exact ((Blk.new_at _ _ _ _ (by simp)).alloc _).alloc _
  have Hb_0 : Hid (Blk v0 (w.heap.size + 1) 43 #[.int .i64 ex, .int .i64 et, .int .i64 ec, .int .i64 es, .int .i64 5, .int .i64 ea, .int .i64 eb, .int .i64 eg, .int .i64 eh]) := by rw [hv0]; exact (Blk.new_at _ _ _ _ (by simp)).alloc _
  have Hr_0 : Hid (Blk v0 (w.heap.size + 1 + 1) 37 #[.int .i64 0, .int .i64 0, .slice none 0 0, .slice none 0 0, .int .i64 0, .int .i64 0, .int .i64 0]) := by rw [hv0]; exact Blk.new_at _ _ _ _ (by simp)
  clear hv0
  generalize hg2 : w.heap.size + 1 + 1 = g2 at *
  generalize hg1 : w.heap.size + 1 = g1 at *
  have lg1 : w.heap.size < g1 := by omega
  have lg2 : g1 < g2 := by omega
  have lgz : g2 < v0.heap.size := by omega
  have nq1x0 : ¬ g1 = w.heap.size := by omega
  have nq0x1 : ¬ w.heap.size = g1 := by omega
  have nq2x0 : ¬ g2 = w.heap.size := by omega
  have nq0x2 : ¬ w.heap.size = g2 := by omega
  have nq2x1 : ¬ g2 = g1 := by omega
  have nq1x2 : ¬ g1 = g2 := by omega
  clear hg1 hg2
  have lt_a := Ha_0.out.lt
  have r_a0 : v0.cell? ⟨w.heap.size, 0, none⟩ = some (.int .i64 i0) := Ha_0.out.cell 0
  have r_a1 : v0.cell? ⟨w.heap.size, 1, none⟩ = some (.int .i64 t0) := Ha_0.out.cell 1
  have r_a2 : v0.cell? ⟨w.heap.size, 2, none⟩ = some (.slice A n c) := Ha_0.out.cell 2
  have r_a3 : v0.cell? ⟨w.heap.size, 3, none⟩ = some (.slice B m d) := Ha_0.out.cell 3
  have r_a4 : v0.cell? ⟨w.heap.size, 4, none⟩ = some (.int .i64 l0) := Ha_0.out.cell 4
  have r_a5 : v0.cell? ⟨w.heap.size, 5, none⟩ = some (.int .i64 l1) := Ha_0.out.cell 5
  have r_a6 : v0.cell? ⟨w.heap.size, 6, none⟩ = some (.int .i64 l2) := Ha_0.out.cell 6
  have lt_b := Hb_0.out.lt
  have r_b0 : v0.cell? ⟨g1, 0, none⟩ = some (.int .i64 ex) := Hb_0.out.cell 0
  have r_b1 : v0.cell? ⟨g1, 1, none⟩ = some (.int .i64 et) := Hb_0.out.cell 1
  have r_b2 : v0.cell? ⟨g1, 2, none⟩ = some (.int .i64 ec) := Hb_0.out.cell 2
  have r_b3 : v0.cell? ⟨g1, 3, none⟩ = some (.int .i64 es) := Hb_0.out.cell 3
  have r_b4 : v0.cell? ⟨g1, 4, none⟩ = some (.int .i64 5) := Hb_0.out.cell 4
  have r_b5 : v0.cell? ⟨g1, 5, none⟩ = some (.int .i64 ea) := Hb_0.out.cell 5
  have r_b6 : v0.cell? ⟨g1, 6, none⟩ = some (.int .i64 eb) := Hb_0.out.cell 6
  have r_b7 : v0.cell? ⟨g1, 7, none⟩ = some (.int .i64 eg) := Hb_0.out.cell 7
  have r_b8 : v0.cell? ⟨g1, 8, none⟩ = some (.int .i64 eh) := Hb_0.out.cell 8
  go_cut [6, 7] (fun pv ov wx => ∃ (g : Nat) (A1 : Option Addr) (n1 c1 : Nat) (B1 : Option Addr) (m1 d1 : Nat) (x0 x1 x2 : Int), pv = .pointer (some ⟨g, 0, none⟩) ∧ ov = .bool true ∧ g2 < g ∧ v0.heap.size ≤ g ∧ Hid (Blk wx g 37 #[.int .i64 i0, .int .i64 t0, .slice A1 n1 c1, .slice B1 m1 d1, .int .i64 x0, .int .i64 x1, .int .i64 x2]) ∧ Hid (Below v0.heap.size v0 wx) ∧ Hid (x0 = h2 ∧ x1 = e2 ∧ x2 = u2) ∧ Hid (Sl wx 2 A1 n1 (PR p2)) ∧ Hid (p2.length = n1) ∧ Hid (A1 = none → n1 = 0 ∧ c1 = 0) ∧ Hid (Sl wx 5 B1 m1 (JB q2)) ∧ Hid (q2.length = m1) ∧ Hid (B1 = none → m1 = 0 ∧ d1 = 0) ∧ Hid (0 < n1 → ∀ a, A1 = some a → a.block ≠ g) ∧ Hid (0 < m1 → ∀ a, B1 = some a → a.block ≠ g))
  case first =>
    have hnm : n ≤ maxLen := by unfold maxLen; omega
    have hmm : m ≤ maxLen := by unfold maxLen; omega
    have hS0 : ∀ b o, b < v0.heap.size → v0.cell? ⟨b, o, none⟩ = v0.cell? ⟨b, o, none⟩ := fun b o hb => rfl
    have ix : ∀ wz : World, (Instr.index 116 (.agg #[.nilFunc, .func (.func 97) #[] #[], .func (.func 99) #[] #[], .func (.func 101) #[] #[], .func (.func 103) #[] #[], .func (.func 107) #[] #[]]) (.int .i64 5)).run Tryz.prog wz = .ok (.func (.func 107) #[] #[]) wz := fun _ => by kernel_rfl
    go_region_held_law (fun w' => ∀ b o, b < v0.heap.size → w'.cell? ⟨b, o, none⟩ = v0.cell? ⟨b, o, none⟩) (repeat' (first | with_reducible assumption | with_reducible exact Nat.le_refl _ | with_reducible exact hS0 | with_reducible refine hl_drew ?_ | with_reducible refine hl_alloc ?_ ?_ _ | with_reducible refine hl_set7 ?_ ?_ _ _ _ _ _ _ _)) (first | (go_at_call 82; refine (effects_any _).mono ?_; rintro e u1 ⟨rfl, b1⟩; (first | (have KB : Blk u1 v0.heap.size 37 #[.int .i64 0, .int .i64 0, .slice none 0 0, .slice none 0 0, .int .i64 0, .int .i64 0, .int .i64 0] := by with_reducible exact t_below2 b1 (Blk.new_at _ _ _ _ rfl)) | (have KB : Blk u1 v0.heap.size 37 #[.int .i64 0, .int .i64 0, .slice none 0 0, .slice none 0 0, .int .i64 0, .int .i64 0, .int .i64 0] := by with_reducible exact t_below2 b1 (Blk.drew (Blk.new_at _ _ _ _ rfl))) | (have KB : Blk u1 v0.heap.size 37 #[.int .i64 0, .int .i64 0, .slice none 0 0, .slice none 0 0, .int .i64 0, .int .i64 0, .int .i64 0] := by with_reducible exact t_below2 b1 (Blk.new_at _ _ _ _ (t_drew_size _))) | (replace KB := t_below2 b1 KB) | (replace KB := t_below2 b1 (Blk.drew KB)) | skip); have E1 : Below v0.heap.size v0 u1 := (by first | with_reducible exact b1 | with_reducible exact tb_dr b1 | with_reducible exact tb_al b1 | with_reducible exact tb_da b1 | with_reducible exact tb_ad b1); have H1 := E1; have y1 := H1.size; have hS1 : ∀ b o, b < v0.heap.size → u1.cell? ⟨b, o, none⟩ = v0.cell? ⟨b, o, none⟩ := fun b o hb => H1.cell (p := ⟨b, o, none⟩) hb; have HPu := Lib.hid (HP_0.out.below E1); have HQu := Lib.hid (HQ_0.out.below E1)) | (go_at_call 107; refine (eff5_R A n c B m d i0 t0 l0 l1 l2 pl ql ex et ec es ea eb eg eh _ (by first | with_reducible exact HPu.out | with_reducible exact Sl.alloc HPu.out _) (by first | with_reducible exact HQu.out | with_reducible exact Sl.alloc HQu.out _) hL.out hR.out hnm hmm HA.out HB.out w.heap.size HP_lt.out HQ_lt.out p2 q2 h2 e2 u2 true hE).mono ?_; rintro e u2_ ⟨A1, n1, c1, B1, m1, d1, x0, x1, x2, rfl, b2, hx⟩; obtain ⟨hx0, hx1, hx2, hP1, hl1, hA1, hQ1, hr1, hB1, hL1, hL2⟩ := hx rfl; (first | (have KB : Blk u2_ u1.heap.size 37 #[.int .i64 0, .int .i64 0, .slice none 0 0, .slice none 0 0, .int .i64 0, .int .i64 0, .int .i64 0] := by with_reducible exact t_below2 b2 (Blk.new_at _ _ _ _ rfl)) | (have KB : Blk u2_ u1.heap.size 37 #[.int .i64 0, .int .i64 0, .slice none 0 0, .slice none 0 0, .int .i64 0, .int .i64 0, .int .i64 0] := by with_reducible exact t_below2 b2 (Blk.drew (Blk.new_at _ _ _ _ rfl))) | (have KB : Blk u2_ u1.heap.size 37 #[.int .i64 0, .int .i64 0, .slice none 0 0, .slice none 0 0, .int .i64 0, .int .i64 0, .int .i64 0] := by with_reducible exact t_below2 b2 (Blk.new_at _ _ _ _ (t_drew_size _))) | (replace KB := t_below2 b2 KB) | (replace KB := t_below2 b2 (Blk.drew KB)) | skip); have E2 : Below u1.heap.size u1 u2_ := (by first | with_reducible exact b2 | with_reducible exact tb_dr b2 | with_reducible exact tb_al b2 | with_reducible exact tb_da b2 | with_reducible exact tb_ad b2); have H2 := bthen H1 E2; have y2 := H2.size; have hS2 : ∀ b o, b < v0.heap.size → u2_.cell? ⟨b, o, none⟩ = v0.cell? ⟨b, o, none⟩ := fun b o hb => H2.cell (p := ⟨b, o, none⟩) hb; (try (have kb0 := KB.cell 0)); (try (have kf0 := KB.frozen 0)); (try (have kb1 := KB.cell 1)); (try (have kf1 := KB.frozen 1)); (try (have kb2 := KB.cell 2)); (try (have kf2 := KB.frozen 2)); (try (have kb3 := KB.cell 3)); (try (have kf3 := KB.frozen 3)); (try (have kb4 := KB.cell 4)); (try (have kf4 := KB.frozen 4)); (try (have kb5 := KB.cell 5)); (try (have kf5 := KB.frozen 5)); (try (have kb6 := KB.cell 6)); (try (have kf6 := KB.frozen 6)); (try (have kbl := KB.lt))))
    all_goals
      have s1 := b1.size
      have s2 := b2.size
      (try simp only [t_size_alloc, ← t_drew_size] at s1)
      (try simp only [t_size_alloc, ← t_drew_size] at s2)
      go_wp2_with fail
      go_meet
      first
        | (with_reducible refine ⟨u2_.heap.size, A1, n1, c1, B1, m1, d1, h2, e2, u2, rfl, rfl, ?_, ?_, ?_, ?_, ?_, ?_, ?_, ?_, ?_, ?_, ?_, ?_, ?_⟩
           · omega
           · omega
           · exact Lib.hid (Blk.new_at _ _ _ _ rfl)
           · exact Lib.hid (H2.alloc y2 _)
           · exact Lib.hid ⟨rfl, rfl, rfl⟩
           · exact Lib.hid (hP1.alloc _)
           · exact Lib.hid hl1
           · exact Lib.hid hA1
           · exact Lib.hid (hQ1.alloc _)
           · exact Lib.hid hr1
           · exact Lib.hid hB1
           · exact (Lib.hid (fun h0 a ha => by have hA := (hP1).lt h0 a ha; have hB := hL1 h0 a ha; have hC := lgz; (try simp only [t_size_alloc] at hB); omega))
           · exact (Lib.hid (fun h0 a ha => by have hA := (hQ1).lt h0 a ha; have hB := hL2 h0 a ha; have hC := lgz; (try simp only [t_size_alloc] at hB); omega)))
        | (with_reducible refine ⟨u1.heap.size, A1, n1, c1, B1, m1, d1, h2, e2, u2, rfl, rfl, ?_, ?_, ?_, ?_, ?_, ?_, ?_, ?_, ?_, ?_, ?_, ?_, ?_⟩
           · omega
           · omega
           · exact Lib.hid (((((((KB.set_ 0 _).set_ 1 _).set_ 2 _).set_ 3 _).set_ 4 _).set_ 5 _).set_ 6 _)
           · exact Lib.hid (below_far7 H2 (by omega) _ _ _ _ _ _ _)
           · exact Lib.hid ⟨rfl, rfl, rfl⟩
           · exact Lib.hid (sl_far7 hP1 (fun h0 a ha => by have hA := (hP1).lt h0 a ha; have hB := hL1 h0 a ha; have hC := lgz; (try simp only [t_size_alloc] at hB); omega) _ _ _ _ _ _ _)
           · exact Lib.hid hl1
           · exact Lib.hid hA1
           · exact Lib.hid (sl_far7 hQ1 (fun h0 a ha => by have hA := (hQ1).lt h0 a ha; have hB := hL2 h0 a ha; have hC := lgz; (try simp only [t_size_alloc] at hB); omega) _ _ _ _ _ _ _)
           · exact Lib.hid hr1
           · exact Lib.hid hB1
           · exact (Lib.hid (fun h0 a ha => by have hA := (hP1).lt h0 a ha; have hB := hL1 h0 a ha; have hC := lgz; (try simp only [t_size_alloc] at hB); omega))
           · exact (Lib.hid (fun h0 a ha => by have hA := (hQ1).lt h0 a ha; have hB := hL2 h0 a ha; have hC := lgz; (try simp only [t_size_alloc] at hB); omega)))
        | (with_reducible refine ⟨v0.heap.size, A1, n1, c1, B1, m1, d1, h2, e2, u2, rfl, rfl, ?_, ?_, ?_, ?_, ?_, ?_, ?_, ?_, ?_, ?_, ?_, ?_, ?_⟩
           · omega
           · omega
           · exact Lib.hid (((((((KB.set_ 0 _).set_ 1 _).set_ 2 _).set_ 3 _).set_ 4 _).set_ 5 _).set_ 6 _)
           · exact Lib.hid (below_far7 H2 (by omega) _ _ _ _ _ _ _)
           · exact Lib.hid ⟨rfl, rfl, rfl⟩
           · exact Lib.hid (sl_far7 hP1 (fun h0 a ha => by have hA := (hP1).lt h0 a ha; have hB := hL1 h0 a ha; have hC := lgz; (try simp only [t_size_alloc] at hB); omega) _ _ _ _ _ _ _)
           · exact Lib.hid hl1
           · exact Lib.hid hA1
           · exact Lib.hid (sl_far7 hQ1 (fun h0 a ha => by have hA := (hQ1).lt h0 a ha; have hB := hL2 h0 a ha; have hC := lgz; (try simp only [t_size_alloc] at hB); omega) _ _ _ _ _ _ _)
           · exact Lib.hid hr1
           · exact Lib.hid hB1
           · exact (Lib.hid (fun h0 a ha => by have hA := (hP1).lt h0 a ha; have hB := hL1 h0 a ha; have hC := lgz; (try simp only [t_size_alloc] at hB); omega))
           · exact (Lib.hid (fun h0 a ha => by have hA := (hQ1).lt h0 a ha; have hB := hL2 h0 a ha; have hC := lgz; (try simp only [t_size_alloc] at hB); omega)))
  case rest =>
    obtain ⟨g, A1, n1, c1, B1, m1, d1, x0, x1, x2, rfl, rfl, hg2, hgz, KX, E1, HX, HP1, HL1, HA1, HQ1, HR1, HB1, HN1, HN2⟩ := hcut
    rename World => v1
    obtain ⟨hx0, hx1, hx2⟩ := HX.out
    subst hx0 hx1 hx2
    clear HX
    clear lt_a r_a0 r_a1 r_a2 r_a3 r_a4 r_a5 r_a6 lt_b r_b0 r_b1 r_b2 r_b3 r_b4 r_b5 r_b6 r_b7 r_b8
    have F1 := Lib.hid (bthen f0 E1.out)
    have y1 := E1.out.size
    have Kb := Lib.hid (Hb_0.out.below E1.out)
    have Kr := Lib.hid (Hr_0.out.below E1.out)
    clear Ha_0 Hb_0 Hr_0 HP_0 HQ_0 HP_lt HQ_lt HP HQ HA HB hL hR
    go_upto_region 4 with fail
    have lt_b := Kb.out.lt
    have r_b0 : v1.cell? ⟨g1, 0, none⟩ = some (.int .i64 ex) := Kb.out.cell 0
    have r_b1 : v1.cell? ⟨g1, 1, none⟩ = some (.int .i64 et) := Kb.out.cell 1
    have r_b2 : v1.cell? ⟨g1, 2, none⟩ = some (.int .i64 ec) := Kb.out.cell 2
    have r_b3 : v1.cell? ⟨g1, 3, none⟩ = some (.int .i64 es) := Kb.out.cell 3
    have r_b4 : v1.cell? ⟨g1, 4, none⟩ = some (.int .i64 5) := Kb.out.cell 4
    have r_b5 : v1.cell? ⟨g1, 5, none⟩ = some (.int .i64 ea) := Kb.out.cell 5
    have r_b6 : v1.cell? ⟨g1, 6, none⟩ = some (.int .i64 eb) := Kb.out.cell 6
    have r_b7 : v1.cell? ⟨g1, 7, none⟩ = some (.int .i64 eg) := Kb.out.cell 7
    have r_b8 : v1.cell? ⟨g1, 8, none⟩ = some (.int .i64 eh) := Kb.out.cell 8
    have lt_x := KX.out.lt
    have r_x0 : v1.cell? ⟨g, 0, none⟩ = some (.int .i64 i0) := KX.out.cell 0
    have z_x0 := KX.out.frozen 0
    have r_x1 : v1.cell? ⟨g, 1, none⟩ = some (.int .i64 t0) := KX.out.cell 1
    have z_x1 := KX.out.frozen 1
    have r_x2 : v1.cell? ⟨g, 2, none⟩ = some (.slice A1 n1 c1) := KX.out.cell 2
    have z_x2 := KX.out.frozen 2
    have r_x3 : v1.cell? ⟨g, 3, none⟩ = some (.slice B1 m1 d1) := KX.out.cell 3
    have z_x3 := KX.out.frozen 3
    have r_x4 : v1.cell? ⟨g, 4, none⟩ = some (.int .i64 x0) := KX.out.cell 4
    have z_x4 := KX.out.frozen 4
    have r_x5 : v1.cell? ⟨g, 5, none⟩ = some (.int .i64 x1) := KX.out.cell 5
    have z_x5 := KX.out.frozen 5
    have r_x6 : v1.cell? ⟨g, 6, none⟩ = some (.int .i64 x2) := KX.out.cell 6
    have z_x6 := KX.out.frozen 6
    have ngb : ¬ g = g1 := by omega
    have nbg : ¬ g1 = g := by omega
    go_cut [] (fun wx => Hid (Blk wx g 37 #[.int .i64 ex, .int .i64 et, .slice A1 n1 c1, .slice B1 m1 d1, .int .i64 x0, .int .i64 x1, .int .i64 x2]) ∧ Hid (Below w.heap.size w wx) ∧ Hid (Blk wx g1 43 #[.int .i64 ex, .int .i64 et, .int .i64 ec, .int .i64 es, .int .i64 5, .int .i64 ea, .int .i64 eb, .int .i64 eg, .int .i64 eh]) ∧ Hid (Blk wx g2 37 #[.int .i64 0, .int .i64 0, .slice none 0 0, .slice none 0 0, .int .i64 0, .int .i64 0, .int .i64 0]) ∧ Hid (Sl wx 2 A1 n1 (PR p2)) ∧ Hid (Sl wx 5 B1 m1 (JB q2)))
    case first =>
      have hS0 : ∀ b o, b < g → v1.cell? ⟨b, o, none⟩ = v1.cell? ⟨b, o, none⟩ := fun b o hb => rfl
      have lbg : g1 < g := by omega
      go_region_held_law (fun w' => ∀ b o, b < g → w'.cell? ⟨b, o, none⟩ = v1.cell? ⟨b, o, none⟩) (repeat' (first | with_reducible assumption | with_reducible exact Nat.le_refl _ | with_reducible exact hS0 | with_reducible refine hl_drew ?_ | with_reducible refine hl_set ?_ ?_ _ _)) (fail)
      all_goals
        go_wp2_with fail
        go_meet
        first
          | exact ⟨Lib.hid (((KX.out.drew).set_ 0 _).set_ 1 _), Lib.hid (((F1.out.drew).setCell (p := ⟨g, 0, none⟩) (by show w.heap.size ≤ g; omega) _).setCell (p := ⟨g, 1, none⟩) (by show w.heap.size ≤ g; omega) _), Lib.hid (((Kb.out.drew).far (p := ⟨g, 0, none⟩) (show g1 ≠ g by omega) _).far (p := ⟨g, 1, none⟩) (show g1 ≠ g by omega) _), Lib.hid (((Kr.out.drew).far (p := ⟨g, 0, none⟩) (show g2 ≠ g by omega) _).far (p := ⟨g, 1, none⟩) (show g2 ≠ g by omega) _), Lib.hid (((HP1.out.drew).far (p := ⟨g, 0, none⟩) (fun h0 a ha => HN1.out h0 a ha) _).far (p := ⟨g, 1, none⟩) (fun h0 a ha => HN1.out h0 a ha) _), Lib.hid (((HQ1.out.drew).far (p := ⟨g, 0, none⟩) (fun h0 a ha => HN2.out h0 a ha) _).far (p := ⟨g, 1, none⟩) (fun h0 a ha => HN2.out h0 a ha) _)⟩
          | exact ⟨Lib.hid (((KX.out.drew).set_ 1 _).set_ 0 _), Lib.hid (((F1.out.drew).setCell (p := ⟨g, 1, none⟩) (by show w.heap.size ≤ g; omega) _).setCell (p := ⟨g, 0, none⟩) (by show w.heap.size ≤ g; omega) _), Lib.hid (((Kb.out.drew).far (p := ⟨g, 1, none⟩) (show g1 ≠ g by omega) _).far (p := ⟨g, 0, none⟩) (show g1 ≠ g by omega) _), Lib.hid (((Kr.out.drew).far (p := ⟨g, 1, none⟩) (show g2 ≠ g by omega) _).far (p := ⟨g, 0, none⟩) (show g2 ≠ g by omega) _), Lib.hid (((HP1.out.drew).far (p := ⟨g, 1, none⟩) (fun h0 a ha => HN1.out h0 a ha) _).far (p := ⟨g, 0, none⟩) (fun h0 a ha => HN1.out h0 a ha) _), Lib.hid (((HQ1.out.drew).far (p := ⟨g, 1, none⟩) (fun h0 a ha => HN2.out h0 a ha) _).far (p := ⟨g, 0, none⟩) (fun h0 a ha => HN2.out h0 a ha) _)⟩
    case rest =>
      clear lt_b r_b0 r_b1 r_b2 r_b3 r_b4 r_b5 r_b6 r_b7 r_b8
      clear lt_x r_x0 z_x0 r_x1 z_x1 r_x2 z_x2 r_x3 z_x3 r_x4 z_x4 r_x5 z_x5 r_x6 z_x6
      obtain ⟨KX2, F2, Kb2, Kr2, HP2, HQ2⟩ := hcut
      rename World => v2
      clear KX
      clear Kb Kr HP1 HQ1
      go_upto_region 7 with fail
      have ngr : ¬ g = g2 := by omega
      have nbr : ¬ g1 = g2 := by omega
      have lt_b := Kb2.out.lt
      have r_b0 : v2.cell? ⟨g1, 0, none⟩ = some (.int .i64 ex) := Kb2.out.cell 0
      have r_b1 : v2.cell? ⟨g1, 1, none⟩ = some (.int .i64 et) := Kb2.out.cell 1
      have r_b2 : v2.cell? ⟨g1, 2, none⟩ = some (.int .i64 ec) := Kb2.out.cell 2
      have r_b3 : v2.cell? ⟨g1, 3, none⟩ = some (.int .i64 es) := Kb2.out.cell 3
      have r_b4 : v2.cell? ⟨g1, 4, none⟩ = some (.int .i64 5) := Kb2.out.cell 4
      have r_b5 : v2.cell? ⟨g1, 5, none⟩ = some (.int .i64 ea) := Kb2.out.cell 5
      have r_b6 : v2.cell? ⟨g1, 6, none⟩ = some (.int .i64 eb) := Kb2.out.cell 6
      have r_b7 : v2.cell? ⟨g1, 7, none⟩ = some (.int .i64 eg) := Kb2.out.cell 7
      have r_b8 : v2.cell? ⟨g1, 8, none⟩ = some (.int .i64 eh) := Kb2.out.cell 8
      have lt_x := KX2.out.lt
      have r_x0 : v2.cell? ⟨g, 0, none⟩ = some (.int .i64 ex) := KX2.out.cell 0
      have z_x0 := KX2.out.frozen 0
      have r_x1 : v2.cell? ⟨g, 1, none⟩ = some (.int .i64 et) := KX2.out.cell 1
      have z_x1 := KX2.out.frozen 1
      have r_x2 : v2.cell? ⟨g, 2, none⟩ = some (.slice A1 n1 c1) := KX2.out.cell 2
      have z_x2 := KX2.out.frozen 2
      have r_x3 : v2.cell? ⟨g, 3, none⟩ = some (.slice B1 m1 d1) := KX2.out.cell 3
      have z_x3 := KX2.out.frozen 3
      have r_x4 : v2.cell? ⟨g, 4, none⟩ = some (.int .i64 x0) := KX2.out.cell 4
      have z_x4 := KX2.out.frozen 4
      have r_x5 : v2.cell? ⟨g, 5, none⟩ = some (.int .i64 x1) := KX2.out.cell 5
      have z_x5 := KX2.out.frozen 5
      have r_x6 : v2.cell? ⟨g, 6, none⟩ = some (.int .i64 x2) := KX2.out.cell 6
      have z_x6 := KX2.out.frozen 6
      have lt_r := Kr2.out.lt
      have r_r0 : v2.cell? ⟨g2, 0, none⟩ = some (.int .i64 0) := Kr2.out.cell 0
      have z_r0 := Kr2.out.frozen 0
      have r_r1 : v2.cell? ⟨g2, 1, none⟩ = some (.int .i64 0) := Kr2.out.cell 1
      have z_r1 := Kr2.out.frozen 1
      have r_r2 : v2.cell? ⟨g2, 2, none⟩ = some (.slice none 0 0) := Kr2.out.cell 2
      have z_r2 := Kr2.out.frozen 2
      have r_r3 : v2.cell? ⟨g2, 3, none⟩ = some (.slice none 0 0) := Kr2.out.cell 3
      have z_r3 := Kr2.out.frozen 3
      have r_r4 : v2.cell? ⟨g2, 4, none⟩ = some (.int .i64 0) := Kr2.out.cell 4
      have z_r4 := Kr2.out.frozen 4
      have r_r5 : v2.cell? ⟨g2, 5, none⟩ = some (.int .i64 0) := Kr2.out.cell 5
      have z_r5 := Kr2.out.frozen 5
      have r_r6 : v2.cell? ⟨g2, 6, none⟩ = some (.int .i64 0) := Kr2.out.cell 6
      have z_r6 := Kr2.out.frozen 6
      have hS0 : ∀ b o, b < v2.heap.size → b ≠ g2 → v2.cell? ⟨b, o, none⟩ = v2.cell? ⟨b, o, none⟩ := fun b o hb hk => rfl
      go_region_held_law (fun w' => ∀ b o, b < v2.heap.size → b ≠ g2 → w'.cell? ⟨b, o, none⟩ = v2.cell? ⟨b, o, none⟩) (repeat' (first | with_reducible assumption | with_reducible exact hS0 | with_reducible refine hn_drew ?_ | with_reducible refine hn_set7 ?_ _ _ _ _ _ _ _)) (first | (go_at_call 42; refine (copyState_any A1 n1 c1 B1 m1 d1 ex et x0 x1 x2 p2 q2 _ (by first | with_reducible exact HP2.out | with_reducible exact Sl.drew HP2.out) (by first | with_reducible exact HQ2.out | with_reducible exact Sl.drew HQ2.out) HL1.out HR1.out (by have := HL1.out; omega) (by have := HR1.out; omega) HA1.out HB1.out).mono ?_; rintro e v3 ⟨A5, c5, B5, d5, rfl, R5, R6, hap, b3⟩; have E3 : Below v2.heap.size v2 v3 := (by first | with_reducible exact b3 | with_reducible exact tb_dr b3); have hS3 : ∀ b o, b < v2.heap.size → b ≠ g2 → v3.cell? ⟨b, o, none⟩ = v2.cell? ⟨b, o, none⟩ := fun b o hb hk => E3.cell (p := ⟨b, o, none⟩) hb; have Kr3 := Kr2.out.below E3; have yb0 := Kr3.cell 0; have yf0 := Kr3.frozen 0; have yb1 := Kr3.cell 1; have yf1 := Kr3.frozen 1; have yb2 := Kr3.cell 2; have yf2 := Kr3.frozen 2; have yb3 := Kr3.cell 3; have yf3 := Kr3.frozen 3; have yb4 := Kr3.cell 4; have yf4 := Kr3.frozen 4; have yb5 := Kr3.cell 5; have yf5 := Kr3.frozen 5; have yb6 := Kr3.cell 6; have yf6 := Kr3.frozen 6; have yl := Kr3.lt))
      all_goals
        go_wp21
        refine bodyPost_ret (v := .tuple #[.agg #[.int .i64 ex, .int .i64 et, .slice A5 n1 c5, .slice B5 m1 d5, .int .i64 x0, .int .i64 x1, .int .i64 x2], .int .i64 5]) (by simp [results, Tryz.results43, go_sem, *]) rfl ?_
        have h5 := R5.mono (show w.heap.size ≤ _ from F2.out.size)
        have h6 := R6.mono (show w.heap.size ≤ _ from F2.out.size)
        have n5 : ∀ a, A5 = some a → a.block ≠ g2 := fun a ha => by have := R5.ge a ha; (try simp at this); omega
        have n6 : ∀ a, B5 = some a → a.block ≠ g2 := fun a ha => by have := R6.ge a ha; (try simp at this); omega
        exact RetStateV.mk HL1.out HR1.out (row_far7 h5 n5 _ _ _ _ _ _ _) (row_far7 h6 n6 _ _ _ _ _ _ _) hap (below_far7 (bthen F2.out E3) (show w.heap.size ≤ g2 by omega) _ _ _ _ _ _ _)
end Go.Proofs.YtokklkmibjpjnaaGreat
namespace Go.Proofs.YtokklkmibjpjnaaGreat
set_option linter.unusedSimpArgs false
set_option linter.unusedVariables false
attribute [local go_sem] n_lt2 n_lt3 n_lt4 n_le2 n_le3
open Go.RowKit
attribute [local go_sem] Ext.cell Ext.frozen
set_option maxRecDepth 100000 in
set_option maxHeartbeats 8000000 in
theorem applied_no1 (A : Option Addr) (n c : Nat) (B : Option Addr) (m d : Nat) (i0 t0 l0 l1 l2 : Int) (pl : List Pr) (ql : List Jb) (ex et ec es ea eb eg eh : Int) (w : World) (hP : Sl w 2 A n (PR pl)) (hQ : Sl w 5 B m (JB ql)) (hl : pl.length = n) (hr : ql.length = m) (hn : n ≤ 1000) (hm : m ≤ 1000) (hA : A = none → n = 0 ∧ c = 0) (hB : B = none → m = 0 ∧ d = 0) (p2 : List Pr) (q2 : List Jb) (h2 e2 u2 : Int) (hE : Hid (effE l0 l1 l2 pl ql ex et ec es 1 ea eb eg eh = (⟨p2, q2, h2, e2, u2⟩, false))) :
    Calls Tryz.prog 43 #[.agg #[.int .i64 i0, .int .i64 t0, .slice A n c, .slice B m d, .int .i64 l0, .int .i64 l1, .int .i64 l2], .agg #[.int .i64 ex, .int .i64 et, .int .i64 ec, .int .i64 es, .int .i64 1, .int .i64 ea, .int .i64 eb, .int .i64 eg, .int .i64 eh]] w (RetStateV w ex et l0 l1 l2 pl.length (PR pl) ql.length (JB ql) (.int .i64 0)) := by
  have HP := Lib.hid hP
  have HQ := Lib.hid hQ
  have HA := Lib.hid hA
  have HB := Lib.hid hB
  have hL := Lib.hid hl
  have hR := Lib.hid hr
  clear hP hQ hA hB hl hr
  go_enter Tryz.func43, Tryz.ntmps43
  go_upto_region 1 with fail
  obtain ⟨v0, hv0⟩ : ∃ x : World, x = (((w.alloc (.cells #[.int .i64 i0, .int .i64 t0, .slice A n c, .slice B m d, .int .i64 l0, .int .i64 l1, .int .i64 l2] 37)).alloc (.cells #[.int .i64 ex, .int .i64 et, .int .i64 ec, .int .i64 es, .int .i64 1, .int .i64 ea, .int .i64 eb, .int .i64 eg, .int .i64 eh] 43)).alloc (.cells #[.int .i64 0, .int .i64 0, .slice none 0 0, .slice none 0 0, .int .i64 0, .int .i64 0, .int .i64 0] 37)) := ⟨_, rfl⟩
  rw [← hv0]
  have f0 : Below w.heap.size w v0 := by rw [hv0]; (repeat' (first | (with_reducible exact Below.refl _ _) | (with_reducible assumption) | (with_reducible refine Below.alloc ?_ ?_ _) | (with_reducible refine Below.drew ?_) | (with_reducible refine Below.setCell ?_ ?_ _) | (with_reducible refine bstep (by assumption) ?_ ?_) | (with_reducible exact Nat.le_refl _) | omega | (simp [*]; done) | (simp [*]; omega)))
  have z0 : w.heap.size + 3 ≤ v0.heap.size := by rw [hv0]; simp [size_set]
  have HP_0 := Lib.hid (HP.out.below f0)
  have HP_lt := Lib.hid (fun hn => HP.out.lt hn)
  have HQ_0 := Lib.hid (HQ.out.below f0)
  have HQ_lt := Lib.hid (fun hn => HQ.out.lt hn)
  have Ha_0 : Hid (Blk v0 w.heap.size 37 #[.int .i64 i0, .int .i64 t0, .slice A n c, .slice B m d, .int .i64 l0, .int .i64 l1, .int .i64 l2]) := by rw [hv0]; exact ((Blk.new_at _ _ _ _ (by simp)).alloc _).alloc _
  have Hb_0 : Hid (Blk v0 (w.heap.size + 1) 43 #[.int .i64 ex, .int .i64 et, .int .i64 ec, .int .i64 es, .int .i64 1, .int .i64 ea, .int .i64 eb, .int .i64 eg, .int .i64 eh]) := by rw [hv0]; exact (Blk.new_at _ _ _ _ (by simp)).alloc _
  have Hr_0 : Hid (Blk v0 (w.heap.size + 1 + 1) 37 #[.int .i64 0, .int .i64 0, .slice none 0 0, .slice none 0 0, .int .i64 0, .int .i64 0, .int .i64 0]) := by rw [hv0]; exact Blk.new_at _ _ _ _ (by simp)
  clear hv0
  generalize hg2 : w.heap.size + 1 + 1 = g2 at *
  generalize hg1 : w.heap.size + 1 = g1 at *
  have lg1 : w.heap.size < g1 := by omega
  have lg2 : g1 < g2 := by omega
  have lgz : g2 < v0.heap.size := by omega
  have nq1x0 : ¬ g1 = w.heap.size := by omega
  have nq0x1 : ¬ w.heap.size = g1 := by omega
  have nq2x0 : ¬ g2 = w.heap.size := by omega
  have nq0x2 : ¬ w.heap.size = g2 := by omega
  have nq2x1 : ¬ g2 = g1 := by omega
  have nq1x2 : ¬ g1 = g2 := by omega
  clear hg1 hg2
  have lt_a := Ha_0.out.lt
  have r_a0 : v0.cell? ⟨w.heap.size, 0, none⟩ = some (.int .i64 i0) := Ha_0.out.cell 0
  have r_a1 : v0.cell? ⟨w.heap.size, 1, none⟩ = some (.int .i64 t0) := Ha_0.out.cell 1
  have r_a2 : v0.cell? ⟨w.heap.size, 2, none⟩ = some (.slice A n c) := Ha_0.out.cell 2
  have r_a3 : v0.cell? ⟨w.heap.size, 3, none⟩ = some (.slice B m d) := Ha_0.out.cell 3
  have r_a4 : v0.cell? ⟨w.heap.size, 4, none⟩ = some (.int .i64 l0) := Ha_0.out.cell 4
  have r_a5 : v0.cell? ⟨w.heap.size, 5, none⟩ = some (.int .i64 l1) := Ha_0.out.cell 5
  have r_a6 : v0.cell? ⟨w.heap.size, 6, none⟩ = some (.int .i64 l2) := Ha_0.out.cell 6
  have lt_b := Hb_0.out.lt
  have r_b0 : v0.cell? ⟨g1, 0, none⟩ = some (.int .i64 ex) := Hb_0.out.cell 0
  have r_b1 : v0.cell? ⟨g1, 1, none⟩ = some (.int .i64 et) := Hb_0.out.cell 1
  have r_b2 : v0.cell? ⟨g1, 2, none⟩ = some (.int .i64 ec) := Hb_0.out.cell 2
  have r_b3 : v0.cell? ⟨g1, 3, none⟩ = some (.int .i64 es) := Hb_0.out.cell 3
  have r_b4 : v0.cell? ⟨g1, 4, none⟩ = some (.int .i64 1) := Hb_0.out.cell 4
  have r_b5 : v0.cell? ⟨g1, 5, none⟩ = some (.int .i64 ea) := Hb_0.out.cell 5
  have r_b6 : v0.cell? ⟨g1, 6, none⟩ = some (.int .i64 eb) := Hb_0.out.cell 6
  have r_b7 : v0.cell? ⟨g1, 7, none⟩ = some (.int .i64 eg) := Hb_0.out.cell 7
  have r_b8 : v0.cell? ⟨g1, 8, none⟩ = some (.int .i64 eh) := Hb_0.out.cell 8
  go_cut [6, 7] (fun pv ov wx => ∃ (g : Nat) (A1 : Option Addr) (n1 c1 : Nat) (B1 : Option Addr) (m1 d1 : Nat) (x0 x1 x2 : Int), pv = .pointer (some ⟨g, 0, none⟩) ∧ ov = .bool false ∧ g2 < g ∧ v0.heap.size ≤ g ∧ Hid (Blk wx g 37 #[.int .i64 i0, .int .i64 t0, .slice A1 n1 c1, .slice B1 m1 d1, .int .i64 x0, .int .i64 x1, .int .i64 x2]) ∧ Hid (Below v0.heap.size v0 wx))
  case first =>
    have hnm : n ≤ maxLen := by unfold maxLen; omega
    have hmm : m ≤ maxLen := by unfold maxLen; omega
    have hS0 : ∀ b o, b < v0.heap.size → v0.cell? ⟨b, o, none⟩ = v0.cell? ⟨b, o, none⟩ := fun b o hb => rfl
    have ix : ∀ wz : World, (Instr.index 116 (.agg #[.nilFunc, .func (.func 97) #[] #[], .func (.func 99) #[] #[], .func (.func 101) #[] #[], .func (.func 103) #[] #[], .func (.func 107) #[] #[]]) (.int .i64 1)).run Tryz.prog wz = .ok (.func (.func 97) #[] #[]) wz := fun _ => by kernel_rfl
    go_region_held_law (fun w' => ∀ b o, b < v0.heap.size → w'.cell? ⟨b, o, none⟩ = v0.cell? ⟨b, o, none⟩) (repeat' (first | with_reducible assumption | with_reducible exact Nat.le_refl _ | with_reducible exact hS0 | with_reducible refine hl_drew ?_ | with_reducible refine hl_alloc ?_ ?_ _ | with_reducible refine hl_set7 ?_ ?_ _ _ _ _ _ _ _)) (first | (go_at_call 82; refine (effects_any _).mono ?_; rintro e u1 ⟨rfl, b1⟩; (first | (have KB : Blk u1 v0.heap.size 37 #[.int .i64 0, .int .i64 0, .slice none 0 0, .slice none 0 0, .int .i64 0, .int .i64 0, .int .i64 0] := by with_reducible exact t_below2 b1 (Blk.new_at _ _ _ _ rfl)) | (have KB : Blk u1 v0.heap.size 37 #[.int .i64 0, .int .i64 0, .slice none 0 0, .slice none 0 0, .int .i64 0, .int .i64 0, .int .i64 0] := by with_reducible exact t_below2 b1 (Blk.drew (Blk.new_at _ _ _ _ rfl))) | (have KB : Blk u1 v0.heap.size 37 #[.int .i64 0, .int .i64 0, .slice none 0 0, .slice none 0 0, .int .i64 0, .int .i64 0, .int .i64 0] := by with_reducible exact t_below2 b1 (Blk.new_at _ _ _ _ (t_drew_size _))) | (replace KB := t_below2 b1 KB) | (replace KB := t_below2 b1 (Blk.drew KB)) | skip); have E1 : Below v0.heap.size v0 u1 := (by first | with_reducible exact b1 | with_reducible exact tb_dr b1 | with_reducible exact tb_al b1 | with_reducible exact tb_da b1 | with_reducible exact tb_ad b1); have H1 := E1; have y1 := H1.size; have hS1 : ∀ b o, b < v0.heap.size → u1.cell? ⟨b, o, none⟩ = v0.cell? ⟨b, o, none⟩ := fun b o hb => H1.cell (p := ⟨b, o, none⟩) hb; have HPu := Lib.hid (HP_0.out.below E1); have HQu := Lib.hid (HQ_0.out.below E1)) | (go_at_call 97; refine (eff1_R A n c B m d i0 t0 l0 l1 l2 pl ql ex et ec es ea eb eg eh _ (by first | with_reducible exact HPu.out | with_reducible exact Sl.alloc HPu.out _) (by first | with_reducible exact HQu.out | with_reducible exact Sl.alloc HQu.out _) hL.out hR.out hnm hmm HA.out HB.out w.heap.size HP_lt.out HQ_lt.out p2 q2 h2 e2 u2 false hE).mono ?_; rintro e u2_ ⟨A1, n1, c1, B1, m1, d1, x0, x1, x2, rfl, b2, hx⟩; (first | (have KB : Blk u2_ u1.heap.size 37 #[.int .i64 0, .int .i64 0, .slice none 0 0, .slice none 0 0, .int .i64 0, .int .i64 0, .int .i64 0] := by with_reducible exact t_below2 b2 (Blk.new_at _ _ _ _ rfl)) | (have KB : Blk u2_ u1.heap.size 37 #[.int .i64 0, .int .i64 0, .slice none 0 0, .slice none 0 0, .int .i64 0, .int .i64 0, .int .i64 0] := by with_reducible exact t_below2 b2 (Blk.drew (Blk.new_at _ _ _ _ rfl))) | (have KB : Blk u2_ u1.heap.size 37 #[.int .i64 0, .int .i64 0, .slice none 0 0, .slice none 0 0, .int .i64 0, .int .i64 0, .int .i64 0] := by with_reducible exact t_below2 b2 (Blk.new_at _ _ _ _ (t_drew_size _))) | (replace KB := t_below2 b2 KB) | (replace KB := t_below2 b2 (Blk.drew KB)) | skip); have E2 : Below u1.heap.size u1 u2_ := (by first | with_reducible exact b2 | with_reducible exact tb_dr b2 | with_reducible exact tb_al b2 | with_reducible exact tb_da b2 | with_reducible exact tb_ad b2); have H2 := bthen H1 E2; have y2 := H2.size; have hS2 : ∀ b o, b < v0.heap.size → u2_.cell? ⟨b, o, none⟩ = v0.cell? ⟨b, o, none⟩ := fun b o hb => H2.cell (p := ⟨b, o, none⟩) hb; (try (have kb0 := KB.cell 0)); (try (have kf0 := KB.frozen 0)); (try (have kb1 := KB.cell 1)); (try (have kf1 := KB.frozen 1)); (try (have kb2 := KB.cell 2)); (try (have kf2 := KB.frozen 2)); (try (have kb3 := KB.cell 3)); (try (have kf3 := KB.frozen 3)); (try (have kb4 := KB.cell 4)); (try (have kf4 := KB.frozen 4)); (try (have kb5 := KB.cell 5)); (try (have kf5 := KB.frozen 5)); (try (have kb6 := KB.cell 6)); (try (have kf6 := KB.frozen 6)); (try (have kbl := KB.lt))))
    all_goals
      have s1 := b1.size
      have s2 := b2.size
      (try simp only [t_size_alloc, ← t_drew_size] at s1)
      (try simp only [t_size_alloc, ← t_drew_size] at s2)
      go_wp2_with fail
      go_meet
      first
        | (with_reducible refine ⟨u2_.heap.size, A1, n1, c1, B1, m1, d1, x0, x1, x2, rfl, rfl, ?_, ?_, ?_, ?_⟩
           · omega
           · omega
           · exact Lib.hid (Blk.new_at _ _ _ _ rfl)
           · exact Lib.hid (H2.alloc y2 _))
        | (with_reducible refine ⟨u1.heap.size, A1, n1, c1, B1, m1, d1, x0, x1, x2, rfl, rfl, ?_, ?_, ?_, ?_⟩
           · omega
           · omega
           · exact Lib.hid (((((((KB.set_ 0 _).set_ 1 _).set_ 2 _).set_ 3 _).set_ 4 _).set_ 5 _).set_ 6 _)
           · exact Lib.hid (below_far7 H2 (by omega) _ _ _ _ _ _ _))
        | (with_reducible refine ⟨v0.heap.size, A1, n1, c1, B1, m1, d1, x0, x1, x2, rfl, rfl, ?_, ?_, ?_, ?_⟩
           · omega
           · omega
           · exact Lib.hid (((((((KB.set_ 0 _).set_ 1 _).set_ 2 _).set_ 3 _).set_ 4 _).set_ 5 _).set_ 6 _)
           · exact Lib.hid (below_far7 H2 (by omega) _ _ _ _ _ _ _))
  case rest =>
    obtain ⟨g, A1, n1, c1, B1, m1, d1, x0, x1, x2, rfl, rfl, hg2, hgz, KX, E1⟩ := hcut
    rename World => v1
    clear lt_a r_a0 r_a1 r_a2 r_a3 r_a4 r_a5 r_a6 lt_b r_b0 r_b1 r_b2 r_b3 r_b4 r_b5 r_b6 r_b7 r_b8
    have F1 := Lib.hid (bthen f0 E1.out)
    have y1 := E1.out.size
    have Ka := Lib.hid (Ha_0.out.below E1.out)
    have Kb := Lib.hid (Hb_0.out.below E1.out)
    have Kr := Lib.hid (Hr_0.out.below E1.out)
    have HP1 := Lib.hid (HP_0.out.below E1.out)
    have HQ1 := Lib.hid (HQ_0.out.below E1.out)
    clear Ha_0 Hb_0 Hr_0 HP_0 HQ_0 HP_lt HQ_lt HP HQ
    have lt_a := Ka.out.lt
    have r_a0 : v1.cell? ⟨w.heap.size, 0, none⟩ = some (.int .i64 i0) := Ka.out.cell 0
    have r_a1 : v1.cell? ⟨w.heap.size, 1, none⟩ = some (.int .i64 t0) := Ka.out.cell 1
    have r_a2 : v1.cell? ⟨w.heap.size, 2, none⟩ = some (.slice A n c) := Ka.out.cell 2
    have r_a3 : v1.cell? ⟨w.heap.size, 3, none⟩ = some (.slice B m d) := Ka.out.cell 3
    have r_a4 : v1.cell? ⟨w.heap.size, 4, none⟩ = some (.int .i64 l0) := Ka.out.cell 4
    have r_a5 : v1.cell? ⟨w.heap.size, 5, none⟩ = some (.int .i64 l1) := Ka.out.cell 5
    have r_a6 : v1.cell? ⟨w.heap.size, 6, none⟩ = some (.int .i64 l2) := Ka.out.cell 6
    have lt_x := KX.out.lt
    have r_x0 : v1.cell? ⟨g, 0, none⟩ = some (.int .i64 i0) := KX.out.cell 0
    have z_x0 := KX.out.frozen 0
    have r_x1 : v1.cell? ⟨g, 1, none⟩ = some (.int .i64 t0) := KX.out.cell 1
    have z_x1 := KX.out.frozen 1
    have r_x2 : v1.cell? ⟨g, 2, none⟩ = some (.slice A1 n1 c1) := KX.out.cell 2
    have z_x2 := KX.out.frozen 2
    have r_x3 : v1.cell? ⟨g, 3, none⟩ = some (.slice B1 m1 d1) := KX.out.cell 3
    have z_x3 := KX.out.frozen 3
    have r_x4 : v1.cell? ⟨g, 4, none⟩ = some (.int .i64 x0) := KX.out.cell 4
    have z_x4 := KX.out.frozen 4
    have r_x5 : v1.cell? ⟨g, 5, none⟩ = some (.int .i64 x1) := KX.out.cell 5
    have z_x5 := KX.out.frozen 5
    have r_x6 : v1.cell? ⟨g, 6, none⟩ = some (.int .i64 x2) := KX.out.cell 6
    have z_x6 := KX.out.frozen 6
    go_wp2_with fail
    refine (copyState_any A n c B m d i0 t0 l0 l1 l2 pl ql _ HP1.out HQ1.out hL.out hR.out hn hm HA.out HB.out).mono ?_
    rintro e v2 ⟨A5, c5, B5, d5, rfl, R5, R6, hap, b2⟩
    clear lt_a r_a0 r_a1 r_a2 r_a3 r_a4 r_a5 r_a6
    clear lt_x r_x0 z_x0 r_x1 z_x1 r_x2 z_x2 r_x3 z_x3 r_x4 z_x4 r_x5 z_x5 r_x6 z_x6
    have Kb2 := Kb.out.below b2
    have Kr2 := Kr.out.below b2
    have KX2 := KX.out.below b2
    have F2 := bthen F1.out b2
    have y2 := b2.size
    have lx := KX.out.lt
    have n5 : ∀ a, A5 = some a → a.block ≠ g := fun a ha => by have := R5.ge a ha; omega
    have n6 : ∀ a, B5 = some a → a.block ≠ g := fun a ha => by have := R6.ge a ha; omega
    have m5 : ∀ a, A5 = some a → a.block ≠ g2 := fun a ha => by have := R5.ge a ha; omega
    have m6 : ∀ a, B5 = some a → a.block ≠ g2 := fun a ha => by have := R6.ge a ha; omega
    have HM := Lib.hid (And.intro n5 (And.intro n6 (And.intro m5 m6)))
    have HAP := Lib.hid hap
    clear n5 n6 m5 m6 hap Ka Kb Kr KX F1 HP1 HQ1
    have lt_x := KX2.lt
    have r_x0 : v2.cell? ⟨g, 0, none⟩ = some (.int .i64 i0) := KX2.cell 0
    have z_x0 := KX2.frozen 0
    have r_x1 : v2.cell? ⟨g, 1, none⟩ = some (.int .i64 t0) := KX2.cell 1
    have z_x1 := KX2.frozen 1
    have r_x2 : v2.cell? ⟨g, 2, none⟩ = some (.slice A1 n1 c1) := KX2.cell 2
    have z_x2 := KX2.frozen 2
    have r_x3 : v2.cell? ⟨g, 3, none⟩ = some (.slice B1 m1 d1) := KX2.cell 3
    have z_x3 := KX2.frozen 3
    have r_x4 : v2.cell? ⟨g, 4, none⟩ = some (.int .i64 x0) := KX2.cell 4
    have z_x4 := KX2.frozen 4
    have r_x5 : v2.cell? ⟨g, 5, none⟩ = some (.int .i64 x1) := KX2.cell 5
    have z_x5 := KX2.frozen 5
    have r_x6 : v2.cell? ⟨g, 6, none⟩ = some (.int .i64 x2) := KX2.cell 6
    have z_x6 := KX2.frozen 6
    go_upto_region 4 with fail
    obtain ⟨v3, hv3⟩ : ∃ x : World, x = (((((((v2.setCell ⟨g, 0, none⟩ (.int .i64 i0)).setCell ⟨g, 1, none⟩ (.int .i64 t0)).setCell ⟨g, 2, none⟩ (.slice A5 n c5)).setCell ⟨g, 3, none⟩ (.slice B5 m d5)).setCell ⟨g, 4, none⟩ (.int .i64 l0)).setCell ⟨g, 5, none⟩ (.int .i64 l1)).setCell ⟨g, 6, none⟩ (.int .i64 l2)) := ⟨_, rfl⟩
    rw [← hv3]
    have KX : Hid (Blk v3 g 37 #[.int .i64 i0, .int .i64 t0, .slice A5 n c5, .slice B5 m d5, .int .i64 l0, .int .i64 l1, .int .i64 l2]) := by rw [hv3]; exact ((((((KX2.set_ 0 _).set_ 1 _).set_ 2 _).set_ 3 _).set_ 4 _).set_ 5 _).set_ 6 _
    have Kb : Hid (Blk v3 g1 43 #[.int .i64 ex, .int .i64 et, .int .i64 ec, .int .i64 es, .int .i64 1, .int .i64 ea, .int .i64 eb, .int .i64 eg, .int .i64 eh]) := by rw [hv3]; exact (((((((Kb2).far (p := ⟨g, 0, none⟩) (show g1 ≠ g by omega) _).far (p := ⟨g, 1, none⟩) (show g1 ≠ g by omega) _).far (p := ⟨g, 2, none⟩) (show g1 ≠ g by omega) _).far (p := ⟨g, 3, none⟩) (show g1 ≠ g by omega) _).far (p := ⟨g, 4, none⟩) (show g1 ≠ g by omega) _).far (p := ⟨g, 5, none⟩) (show g1 ≠ g by omega) _).far (p := ⟨g, 6, none⟩) (show g1 ≠ g by omega) _
    have Kr : Hid (Blk v3 g2 37 #[.int .i64 0, .int .i64 0, .slice none 0 0, .slice none 0 0, .int .i64 0, .int .i64 0, .int .i64 0]) := by rw [hv3]; exact (((((((Kr2).far (p := ⟨g, 0, none⟩) (show g2 ≠ g by omega) _).far (p := ⟨g, 1, none⟩) (show g2 ≠ g by omega) _).far (p := ⟨g, 2, none⟩) (show g2 ≠ g by omega) _).far (p := ⟨g, 3, none⟩) (show g2 ≠ g by omega) _).far (p := ⟨g, 4, none⟩) (show g2 ≠ g by omega) _).far (p := ⟨g, 5, none⟩) (show g2 ≠ g by omega) _).far (p := ⟨g, 6, none⟩) (show g2 ≠ g by omega) _
    have F1 : Hid (Below w.heap.size w v3) := by rw [hv3]; exact below_far7 F2 (by omega) _ _ _ _ _ _ _
    have RP : Hid (Row v3 w.heap.size 106 2 A5 n c5 (PR pl)) := by rw [hv3]; exact row_far7 (R5.mono (by omega)) HM.out.1 _ _ _ _ _ _ _
    have RQ : Hid (Row v3 w.heap.size 71 5 B5 m d5 (JB ql)) := by rw [hv3]; exact row_far7 (R6.mono (by omega)) HM.out.2.1 _ _ _ _ _ _ _
    clear hv3 Kb2 Kr2 KX2 F2 R5 R6 b2
    clear lt_x r_x0 z_x0 r_x1 z_x1 r_x2 z_x2 r_x3 z_x3 r_x4 z_x4 r_x5 z_x5 r_x6 z_x6
    have lt_b := Kb.out.lt
    have r_b0 : v3.cell? ⟨g1, 0, none⟩ = some (.int .i64 ex) := Kb.out.cell 0
    have r_b1 : v3.cell? ⟨g1, 1, none⟩ = some (.int .i64 et) := Kb.out.cell 1
    have r_b2 : v3.cell? ⟨g1, 2, none⟩ = some (.int .i64 ec) := Kb.out.cell 2
    have r_b3 : v3.cell? ⟨g1, 3, none⟩ = some (.int .i64 es) := Kb.out.cell 3
    have r_b4 : v3.cell? ⟨g1, 4, none⟩ = some (.int .i64 1) := Kb.out.cell 4
    have r_b5 : v3.cell? ⟨g1, 5, none⟩ = some (.int .i64 ea) := Kb.out.cell 5
    have r_b6 : v3.cell? ⟨g1, 6, none⟩ = some (.int .i64 eb) := Kb.out.cell 6
    have r_b7 : v3.cell? ⟨g1, 7, none⟩ = some (.int .i64 eg) := Kb.out.cell 7
    have r_b8 : v3.cell? ⟨g1, 8, none⟩ = some (.int .i64 eh) := Kb.out.cell 8
    have lt_x := KX.out.lt
    have r_x0 : v3.cell? ⟨g, 0, none⟩ = some (.int .i64 i0) := KX.out.cell 0
    have z_x0 := KX.out.frozen 0
    have r_x1 : v3.cell? ⟨g, 1, none⟩ = some (.int .i64 t0) := KX.out.cell 1
    have z_x1 := KX.out.frozen 1
    have r_x2 : v3.cell? ⟨g, 2, none⟩ = some (.slice A5 n c5) := KX.out.cell 2
    have z_x2 := KX.out.frozen 2
    have r_x3 : v3.cell? ⟨g, 3, none⟩ = some (.slice B5 m d5) := KX.out.cell 3
    have z_x3 := KX.out.frozen 3
    have r_x4 : v3.cell? ⟨g, 4, none⟩ = some (.int .i64 l0) := KX.out.cell 4
    have z_x4 := KX.out.frozen 4
    have r_x5 : v3.cell? ⟨g, 5, none⟩ = some (.int .i64 l1) := KX.out.cell 5
    have z_x5 := KX.out.frozen 5
    have r_x6 : v3.cell? ⟨g, 6, none⟩ = some (.int .i64 l2) := KX.out.cell 6
    have z_x6 := KX.out.frozen 6
    have ngb : ¬ g = g1 := by omega
    have nbg : ¬ g1 = g := by omega
    go_cut [] (fun wx => Hid (Blk wx g 37 #[.int .i64 ex, .int .i64 et, .slice A5 n c5, .slice B5 m d5, .int .i64 l0, .int .i64 l1, .int .i64 l2]) ∧ Hid (Below w.heap.size w wx) ∧ Hid (Blk wx g2 37 #[.int .i64 0, .int .i64 0, .slice none 0 0, .slice none 0 0, .int .i64 0, .int .i64 0, .int .i64 0]) ∧ Hid (Row wx w.heap.size 106 2 A5 n c5 (PR pl)) ∧ Hid (Row wx w.heap.size 71 5 B5 m d5 (JB ql)))
    case first =>
      have hS0 : ∀ b o, b < g → v3.cell? ⟨b, o, none⟩ = v3.cell? ⟨b, o, none⟩ := fun b o hb => rfl
      have lbg : g1 < g := by omega
      go_region_held_law (fun w' => ∀ b o, b < g → w'.cell? ⟨b, o, none⟩ = v3.cell? ⟨b, o, none⟩) (repeat' (first | with_reducible assumption | with_reducible exact Nat.le_refl _ | with_reducible exact hS0 | with_reducible refine hl_drew ?_ | with_reducible refine hl_set ?_ ?_ _ _)) (fail)
      all_goals
        go_wp2_with fail
        go_meet
        first
          | exact ⟨Lib.hid (((KX.out.drew).set_ 0 _).set_ 1 _), Lib.hid (((F1.out.drew).setCell (p := ⟨g, 0, none⟩) (by show w.heap.size ≤ g; omega) _).setCell (p := ⟨g, 1, none⟩) (by show w.heap.size ≤ g; omega) _), Lib.hid (((Kr.out.drew).far (p := ⟨g, 0, none⟩) (show g2 ≠ g by omega) _).far (p := ⟨g, 1, none⟩) (show g2 ≠ g by omega) _), Lib.hid (((RP.out.drew).far (p := ⟨g, 0, none⟩) HM.out.1 _).far (p := ⟨g, 1, none⟩) HM.out.1 _), Lib.hid (((RQ.out.drew).far (p := ⟨g, 0, none⟩) HM.out.2.1 _).far (p := ⟨g, 1, none⟩) HM.out.2.1 _)⟩
          | exact ⟨Lib.hid (((KX.out.drew).set_ 1 _).set_ 0 _), Lib.hid (((F1.out.drew).setCell (p := ⟨g, 1, none⟩) (by show w.heap.size ≤ g; omega) _).setCell (p := ⟨g, 0, none⟩) (by show w.heap.size ≤ g; omega) _), Lib.hid (((Kr.out.drew).far (p := ⟨g, 1, none⟩) (show g2 ≠ g by omega) _).far (p := ⟨g, 0, none⟩) (show g2 ≠ g by omega) _), Lib.hid (((RP.out.drew).far (p := ⟨g, 1, none⟩) HM.out.1 _).far (p := ⟨g, 0, none⟩) HM.out.1 _), Lib.hid (((RQ.out.drew).far (p := ⟨g, 1, none⟩) HM.out.2.1 _).far (p := ⟨g, 0, none⟩) HM.out.2.1 _)⟩
    case rest =>
      clear lt_b r_b0 r_b1 r_b2 r_b3 r_b4 r_b5 r_b6 r_b7 r_b8
      clear lt_x r_x0 z_x0 r_x1 z_x1 r_x2 z_x2 r_x3 z_x3 r_x4 z_x4 r_x5 z_x5 r_x6 z_x6
      obtain ⟨KX2, F2, Kr2, RP2, RQ2⟩ := hcut
      rename World => v4
      clear KX
      clear Kb Kr RP RQ F1
      have ngr : ¬ g = g2 := by omega
      have nrg : ¬ g2 = g := by omega
      have lt_x := KX2.out.lt
      have r_x0 : v4.cell? ⟨g, 0, none⟩ = some (.int .i64 ex) := KX2.out.cell 0
      have z_x0 := KX2.out.frozen 0
      have r_x1 : v4.cell? ⟨g, 1, none⟩ = some (.int .i64 et) := KX2.out.cell 1
      have z_x1 := KX2.out.frozen 1
      have r_x2 : v4.cell? ⟨g, 2, none⟩ = some (.slice A5 n c5) := KX2.out.cell 2
      have z_x2 := KX2.out.frozen 2
      have r_x3 : v4.cell? ⟨g, 3, none⟩ = some (.slice B5 m d5) := KX2.out.cell 3
      have z_x3 := KX2.out.frozen 3
      have r_x4 : v4.cell? ⟨g, 4, none⟩ = some (.int .i64 l0) := KX2.out.cell 4
      have z_x4 := KX2.out.frozen 4
      have r_x5 : v4.cell? ⟨g, 5, none⟩ = some (.int .i64 l1) := KX2.out.cell 5
      have z_x5 := KX2.out.frozen 5
      have r_x6 : v4.cell? ⟨g, 6, none⟩ = some (.int .i64 l2) := KX2.out.cell 6
      have z_x6 := KX2.out.frozen 6
      have lt_r := Kr2.out.lt
      have r_r0 : v4.cell? ⟨g2, 0, none⟩ = some (.int .i64 0) := Kr2.out.cell 0
      have z_r0 := Kr2.out.frozen 0
      have r_r1 : v4.cell? ⟨g2, 1, none⟩ = some (.int .i64 0) := Kr2.out.cell 1
      have z_r1 := Kr2.out.frozen 1
      have r_r2 : v4.cell? ⟨g2, 2, none⟩ = some (.slice none 0 0) := Kr2.out.cell 2
      have z_r2 := Kr2.out.frozen 2
      have r_r3 : v4.cell? ⟨g2, 3, none⟩ = some (.slice none 0 0) := Kr2.out.cell 3
      have z_r3 := Kr2.out.frozen 3
      have r_r4 : v4.cell? ⟨g2, 4, none⟩ = some (.int .i64 0) := Kr2.out.cell 4
      have z_r4 := Kr2.out.frozen 4
      have r_r5 : v4.cell? ⟨g2, 5, none⟩ = some (.int .i64 0) := Kr2.out.cell 5
      have z_r5 := Kr2.out.frozen 5
      have r_r6 : v4.cell? ⟨g2, 6, none⟩ = some (.int .i64 0) := Kr2.out.cell 6
      have z_r6 := Kr2.out.frozen 6
      go_wp21
      refine bodyPost_ret (v := .tuple #[.agg #[.int .i64 ex, .int .i64 et, .slice A5 n c5, .slice B5 m d5, .int .i64 l0, .int .i64 l1, .int .i64 l2], .int .i64 0]) (by simp [results, Tryz.results43, go_sem, *]) rfl ?_
      exact RetStateV.mk hL.out hR.out (row_far7 RP2.out HM.out.2.2.1 _ _ _ _ _ _ _) (row_far7 RQ2.out HM.out.2.2.2 _ _ _ _ _ _ _) HAP.out (below_far7 F2.out (show w.heap.size ≤ g2 by omega) _ _ _ _ _ _ _)
end Go.Proofs.YtokklkmibjpjnaaGreat
namespace Go.Proofs.YtokklkmibjpjnaaGreat
set_option linter.unusedSimpArgs false
set_option linter.unusedVariables false
attribute [local go_sem] n_lt2 n_lt3 n_lt4 n_le2 n_le3
open Go.RowKit
attribute [local go_sem] Ext.cell Ext.frozen
set_option maxRecDepth 100000 in
set_option maxHeartbeats 8000000 in
theorem applied_no2 (A : Option Addr) (n c : Nat) (B : Option Addr) (m d : Nat) (i0 t0 l0 l1 l2 : Int) (pl : List Pr) (ql : List Jb) (ex et ec es ea eb eg eh : Int) (w : World) (hP : Sl w 2 A n (PR pl)) (hQ : Sl w 5 B m (JB ql)) (hl : pl.length = n) (hr : ql.length = m) (hn : n ≤ 1000) (hm : m ≤ 1000) (hA : A = none → n = 0 ∧ c = 0) (hB : B = none → m = 0 ∧ d = 0) (p2 : List Pr) (q2 : List Jb) (h2 e2 u2 : Int) (hE : Hid (effE l0 l1 l2 pl ql ex et ec es 2 ea eb eg eh = (⟨p2, q2, h2, e2, u2⟩, false))) :
    Calls Tryz.prog 43 #[.agg #[.int .i64 i0, .int .i64 t0, .slice A n c, .slice B m d, .int .i64 l0, .int .i64 l1, .int .i64 l2], .agg #[.int .i64 ex, .int .i64 et, .int .i64 ec, .int .i64 es, .int .i64 2, .int .i64 ea, .int .i64 eb, .int .i64 eg, .int .i64 eh]] w (RetStateV w ex et l0 l1 l2 pl.length (PR pl) ql.length (JB ql) (.int .i64 0)) := by
  have HP := Lib.hid hP
  have HQ := Lib.hid hQ
  have HA := Lib.hid hA
  have HB := Lib.hid hB
  have hL := Lib.hid hl
  have hR := Lib.hid hr
  clear hP hQ hA hB hl hr
  go_enter Tryz.func43, Tryz.ntmps43
  go_upto_region 1 with fail
  obtain ⟨v0, hv0⟩ : ∃ x : World, x = (((w.alloc (.cells #[.int .i64 i0, .int .i64 t0, .slice A n c, .slice B m d, .int .i64 l0, .int .i64 l1, .int .i64 l2] 37)).alloc (.cells #[.int .i64 ex, .int .i64 et, .int .i64 ec, .int .i64 es, .int .i64 2, .int .i64 ea, .int .i64 eb, .int .i64 eg, .int .i64 eh] 43)).alloc (.cells #[.int .i64 0, .int .i64 0, .slice none 0 0, .slice none 0 0, .int .i64 0, .int .i64 0, .int .i64 0] 37)) := ⟨_, rfl⟩
  rw [← hv0]
  have f0 : Below w.heap.size w v0 := by rw [hv0]; (repeat' (first | (with_reducible exact Below.refl _ _) | (with_reducible assumption) | (with_reducible refine Below.alloc ?_ ?_ _) | (with_reducible refine Below.drew ?_) | (with_reducible refine Below.setCell ?_ ?_ _) | (with_reducible refine bstep (by assumption) ?_ ?_) | (with_reducible exact Nat.le_refl _) | omega | (simp [*]; done) | (simp [*]; omega)))
  have z0 : w.heap.size + 3 ≤ v0.heap.size := by rw [hv0]; simp [size_set]
  have HP_0 := Lib.hid (HP.out.below f0)
  have HP_lt := Lib.hid (fun hn => HP.out.lt hn)
  have HQ_0 := Lib.hid (HQ.out.below f0)
  have HQ_lt := Lib.hid (fun hn => HQ.out.lt hn)
  have Ha_0 : Hid (Blk v0 w.heap.size 37 #[.int .i64 i0, .int .i64 t0, .slice A n c, .slice B m d, .int .i64 l0, .int .i64 l1, .int .i64 l2]) := by rw [hv0]; exact ((Blk.new_at _ _ _ _ (by simp)).alloc _).alloc _
  have Hb_0 : Hid (Blk v0 (w.heap.size + 1) 43 #[.int .i64 ex, .int .i64 et, .int .i64 ec, .int .i64 es, .int .i64 2, .int .i64 ea, .int .i64 eb, .int .i64 eg, .int .i64 eh]) := by rw [hv0]; exact (Blk.new_at _ _ _ _ (by simp)).alloc _
  have Hr_0 : Hid (Blk v0 (w.heap.size + 1 + 1) 37 #[.int .i64 0, .int .i64 0, .slice none 0 0, .slice none 0 0, .int .i64 0, .int .i64 0, .int .i64 0]) := by rw [hv0]; exact Blk.new_at _ _ _ _ (by simp)
  clear hv0
  generalize hg2 : w.heap.size + 1 + 1 = g2 at *
  generalize hg1 : w.heap.size + 1 = g1 at *
  have lg1 : w.heap.size < g1 := by omega
  have lg2 : g1 < g2 := by omega
  have lgz : g2 < v0.heap.size := by omega
  have nq1x0 : ¬ g1 = w.heap.size := by omega
  have nq0x1 : ¬ w.heap.size = g1 := by omega
  have nq2x0 : ¬ g2 = w.heap.size := by omega
  have nq0x2 : ¬ w.heap.size = g2 := by omega
  have nq2x1 : ¬ g2 = g1 := by omega
  have nq1x2 : ¬ g1 = g2 := by omega
  clear hg1 hg2
  have lt_a := Ha_0.out.lt
  have r_a0 : v0.cell? ⟨w.heap.size, 0, none⟩ = some (.int .i64 i0) := Ha_0.out.cell 0
  have r_a1 : v0.cell? ⟨w.heap.size, 1, none⟩ = some (.int .i64 t0) := Ha_0.out.cell 1
  have r_a2 : v0.cell? ⟨w.heap.size, 2, none⟩ = some (.slice A n c) := Ha_0.out.cell 2
  have r_a3 : v0.cell? ⟨w.heap.size, 3, none⟩ = some (.slice B m d) := Ha_0.out.cell 3
  have r_a4 : v0.cell? ⟨w.heap.size, 4, none⟩ = some (.int .i64 l0) := Ha_0.out.cell 4
  have r_a5 : v0.cell? ⟨w.heap.size, 5, none⟩ = some (.int .i64 l1) := Ha_0.out.cell 5
  have r_a6 : v0.cell? ⟨w.heap.size, 6, none⟩ = some (.int .i64 l2) := Ha_0.out.cell 6
  have lt_b := Hb_0.out.lt
  have r_b0 : v0.cell? ⟨g1, 0, none⟩ = some (.int .i64 ex) := Hb_0.out.cell 0
  have r_b1 : v0.cell? ⟨g1, 1, none⟩ = some (.int .i64 et) := Hb_0.out.cell 1
  have r_b2 : v0.cell? ⟨g1, 2, none⟩ = some (.int .i64 ec) := Hb_0.out.cell 2
  have r_b3 : v0.cell? ⟨g1, 3, none⟩ = some (.int .i64 es) := Hb_0.out.cell 3
  have r_b4 : v0.cell? ⟨g1, 4, none⟩ = some (.int .i64 2) := Hb_0.out.cell 4
  have r_b5 : v0.cell? ⟨g1, 5, none⟩ = some (.int .i64 ea) := Hb_0.out.cell 5
  have r_b6 : v0.cell? ⟨g1, 6, none⟩ = some (.int .i64 eb) := Hb_0.out.cell 6
  have r_b7 : v0.cell? ⟨g1, 7, none⟩ = some (.int .i64 eg) := Hb_0.out.cell 7
  have r_b8 : v0.cell? ⟨g1, 8, none⟩ = some (.int .i64 eh) := Hb_0.out.cell 8
  go_cut [6, 7] (fun pv ov wx => ∃ (g : Nat) (A1 : Option Addr) (n1 c1 : Nat) (B1 : Option Addr) (m1 d1 : Nat) (x0 x1 x2 : Int), pv = .pointer (some ⟨g, 0, none⟩) ∧ ov = .bool false ∧ g2 < g ∧ v0.heap.size ≤ g ∧ Hid (Blk wx g 37 #[.int .i64 i0, .int .i64 t0, .slice A1 n1 c1, .slice B1 m1 d1, .int .i64 x0, .int .i64 x1, .int .i64 x2]) ∧ Hid (Below v0.heap.size v0 wx))
  case first =>
    have hnm : n ≤ maxLen := by unfold maxLen; omega
    have hmm : m ≤ maxLen := by unfold maxLen; omega
    have hS0 : ∀ b o, b < v0.heap.size → v0.cell? ⟨b, o, none⟩ = v0.cell? ⟨b, o, none⟩ := fun b o hb => rfl
    have ix : ∀ wz : World, (Instr.index 116 (.agg #[.nilFunc, .func (.func 97) #[] #[], .func (.func 99) #[] #[], .func (.func 101) #[] #[], .func (.func 103) #[] #[], .func (.func 107) #[] #[]]) (.int .i64 2)).run Tryz.prog wz = .ok (.func (.func 99) #[] #[]) wz := fun _ => by kernel_rfl
    go_region_held_law (fun w' => ∀ b o, b < v0.heap.size → w'.cell? ⟨b, o, none⟩ = v0.cell? ⟨b, o, none⟩) (repeat' (first | with_reducible assumption | with_reducible exact Nat.le_refl _ | with_reducible exact hS0 | with_reducible refine hl_drew ?_ | with_reducible refine hl_alloc ?_ ?_ _ | with_reducible refine hl_set7 ?_ ?_ _ _ _ _ _ _ _)) (first | (go_at_call 82; refine (effects_any _).mono ?_; rintro e u1 ⟨rfl, b1⟩; (first | (have KB : Blk u1 v0.heap.size 37 #[.int .i64 0, .int .i64 0, .slice none 0 0, .slice none 0 0, .int .i64 0, .int .i64 0, .int .i64 0] := by with_reducible exact t_below2 b1 (Blk.new_at _ _ _ _ rfl)) | (have KB : Blk u1 v0.heap.size 37 #[.int .i64 0, .int .i64 0, .slice none 0 0, .slice none 0 0, .int .i64 0, .int .i64 0, .int .i64 0] := by with_reducible exact t_below2 b1 (Blk.drew (Blk.new_at _ _ _ _ rfl))) | (have KB : Blk u1 v0.heap.size 37 #[.int .i64 0, .int .i64 0, .slice none 0 0, .slice none 0 0, .int .i64 0, .int .i64 0, .int .i64 0] := by with_reducible exact t_below2 b1 (Blk.new_at _ _ _ _ (t_drew_size _))) | (replace KB := t_below2 b1 KB) | (replace KB := t_below2 b1 (Blk.drew KB)) | skip); have E1 : Below v0.heap.size v0 u1 := (by first | with_reducible exact b1 | with_reducible exact tb_dr b1 | with_reducible exact tb_al b1 | with_reducible exact tb_da b1 | with_reducible exact tb_ad b1); have H1 := E1; have y1 := H1.size; have hS1 : ∀ b o, b < v0.heap.size → u1.cell? ⟨b, o, none⟩ = v0.cell? ⟨b, o, none⟩ := fun b o hb => H1.cell (p := ⟨b, o, none⟩) hb; have HPu := Lib.hid (HP_0.out.below E1); have HQu := Lib.hid (HQ_0.out.below E1)) | (go_at_call 99; refine (eff2_R A n c B m d i0 t0 l0 l1 l2 pl ql ex et ec es ea eb eg eh _ (by first | with_reducible exact HPu.out | with_reducible exact Sl.alloc HPu.out _) (by first | with_reducible exact HQu.out | with_reducible exact Sl.alloc HQu.out _) hL.out hR.out hnm hmm HA.out HB.out w.heap.size HP_lt.out HQ_lt.out p2 q2 h2 e2 u2 false hE).mono ?_; rintro e u2_ ⟨A1, n1, c1, B1, m1, d1, x0, x1, x2, rfl, b2, hx⟩; (first | (have KB : Blk u2_ u1.heap.size 37 #[.int .i64 0, .int .i64 0, .slice none 0 0, .slice none 0 0, .int .i64 0, .int .i64 0, .int .i64 0] := by with_reducible exact t_below2 b2 (Blk.new_at _ _ _ _ rfl)) | (have KB : Blk u2_ u1.heap.size 37 #[.int .i64 0, .int .i64 0, .slice none 0 0, .slice none 0 0, .int .i64 0, .int .i64 0, .int .i64 0] := by with_reducible exact t_below2 b2 (Blk.drew (Blk.new_at _ _ _ _ rfl))) | (have KB : Blk u2_ u1.heap.size 37 #[.int .i64 0, .int .i64 0, .slice none 0 0, .slice none 0 0, .int .i64 0, .int .i64 0, .int .i64 0] := by with_reducible exact t_below2 b2 (Blk.new_at _ _ _ _ (t_drew_size _))) | (replace KB := t_below2 b2 KB) | (replace KB := t_below2 b2 (Blk.drew KB)) | skip); have E2 : Below u1.heap.size u1 u2_ := (by first | with_reducible exact b2 | with_reducible exact tb_dr b2 | with_reducible exact tb_al b2 | with_reducible exact tb_da b2 | with_reducible exact tb_ad b2); have H2 := bthen H1 E2; have y2 := H2.size; have hS2 : ∀ b o, b < v0.heap.size → u2_.cell? ⟨b, o, none⟩ = v0.cell? ⟨b, o, none⟩ := fun b o hb => H2.cell (p := ⟨b, o, none⟩) hb; (try (have kb0 := KB.cell 0)); (try (have kf0 := KB.frozen 0)); (try (have kb1 := KB.cell 1)); (try (have kf1 := KB.frozen 1)); (try (have kb2 := KB.cell 2)); (try (have kf2 := KB.frozen 2)); (try (have kb3 := KB.cell 3)); (try (have kf3 := KB.frozen 3)); (try (have kb4 := KB.cell 4)); (try (have kf4 := KB.frozen 4)); (try (have kb5 := KB.cell 5)); (try (have kf5 := KB.frozen 5)); (try (have kb6 := KB.cell 6)); (try (have kf6 := KB.frozen 6)); (try (have kbl := KB.lt))))
    all_goals
      have s1 := b1.size
      have s2 := b2.size
      (try simp only [t_size_alloc, ← t_drew_size] at s1)
      (try simp only [t_size_alloc, ← t_drew_size] at s2)
      go_wp2_with fail
      go_meet
      first
        | (with_reducible refine ⟨u2_.heap.size, A1, n1, c1, B1, m1, d1, x0, x1, x2, rfl, rfl, ?_, ?_, ?_, ?_⟩
           · omega
           · omega
           · exact Lib.hid (Blk.new_at _ _ _ _ rfl)
           · exact Lib.hid (H2.alloc y2 _))
        | (with_reducible refine ⟨u1.heap.size, A1, n1, c1, B1, m1, d1, x0, x1, x2, rfl, rfl, ?_, ?_, ?_, ?_⟩
           · omega
           · omega
           · exact Lib.hid (((((((KB.set_ 0 _).set_ 1 _).set_ 2 _).set_ 3 _).set_ 4 _).set_ 5 _).set_ 6 _)
           · exact Lib.hid (below_far7 H2 (by omega) _ _ _ _ _ _ _))
        | (with_reducible refine ⟨v0.heap.size, A1, n1, c1, B1, m1, d1, x0, x1, x2, rfl, rfl, ?_, ?_, ?_, ?_⟩
           · omega
           · omega
           · exact Lib.hid (((((((KB.set_ 0 _).set_ 1 _).set_ 2 _).set_ 3 _).set_ 4 _).set_ 5 _).set_ 6 _)
           · exact Lib.hid (below_far7 H2 (by omega) _ _ _ _ _ _ _))
  case rest =>
    obtain ⟨g, A1, n1, c1, B1, m1, d1, x0, x1, x2, rfl, rfl, hg2, hgz, KX, E1⟩ := hcut
    rename World => v1
    clear lt_a r_a0 r_a1 r_a2 r_a3 r_a4 r_a5 r_a6 lt_b r_b0 r_b1 r_b2 r_b3 r_b4 r_b5 r_b6 r_b7 r_b8
    have F1 := Lib.hid (bthen f0 E1.out)
    have y1 := E1.out.size
    have Ka := Lib.hid (Ha_0.out.below E1.out)
    have Kb := Lib.hid (Hb_0.out.below E1.out)
    have Kr := Lib.hid (Hr_0.out.below E1.out)
    have HP1 := Lib.hid (HP_0.out.below E1.out)
    have HQ1 := Lib.hid (HQ_0.out.below E1.out)
    clear Ha_0 Hb_0 Hr_0 HP_0 HQ_0 HP_lt HQ_lt HP HQ
    have lt_a := Ka.out.lt
    have r_a0 : v1.cell? ⟨w.heap.size, 0, none⟩ = some (.int .i64 i0) := Ka.out.cell 0
    have r_a1 : v1.cell? ⟨w.heap.size, 1, none⟩ = some (.int .i64 t0) := Ka.out.cell 1
    have r_a2 : v1.cell? ⟨w.heap.size, 2, none⟩ = some (.slice A n c) := Ka.out.cell 2
    have r_a3 : v1.cell? ⟨w.heap.size, 3, none⟩ = some (.slice B m d) := Ka.out.cell 3
    have r_a4 : v1.cell? ⟨w.heap.size, 4, none⟩ = some (.int .i64 l0) := Ka.out.cell 4
    have r_a5 : v1.cell? ⟨w.heap.size, 5, none⟩ = some (.int .i64 l1) := Ka.out.cell 5
    have r_a6 : v1.cell? ⟨w.heap.size, 6, none⟩ = some (.int .i64 l2) := Ka.out.cell 6
    have lt_x := KX.out.lt
    have r_x0 : v1.cell? ⟨g, 0, none⟩ = some (.int .i64 i0) := KX.out.cell 0
    have z_x0 := KX.out.frozen 0
    have r_x1 : v1.cell? ⟨g, 1, none⟩ = some (.int .i64 t0) := KX.out.cell 1
    have z_x1 := KX.out.frozen 1
    have r_x2 : v1.cell? ⟨g, 2, none⟩ = some (.slice A1 n1 c1) := KX.out.cell 2
    have z_x2 := KX.out.frozen 2
    have r_x3 : v1.cell? ⟨g, 3, none⟩ = some (.slice B1 m1 d1) := KX.out.cell 3
    have z_x3 := KX.out.frozen 3
    have r_x4 : v1.cell? ⟨g, 4, none⟩ = some (.int .i64 x0) := KX.out.cell 4
    have z_x4 := KX.out.frozen 4
    have r_x5 : v1.cell? ⟨g, 5, none⟩ = some (.int .i64 x1) := KX.out.cell 5
    have z_x5 := KX.out.frozen 5
    have r_x6 : v1.cell? ⟨g, 6, none⟩ = some (.int .i64 x2) := KX.out.cell 6
    have z_x6 := KX.out.frozen 6
    go_wp2_with fail
    refine (copyState_any A n c B m d i0 t0 l0 l1 l2 pl ql _ HP1.out HQ1.out hL.out hR.out hn hm HA.out HB.out).mono ?_
    rintro e v2 ⟨A5, c5, B5, d5, rfl, R5, R6, hap, b2⟩
    clear lt_a r_a0 r_a1 r_a2 r_a3 r_a4 r_a5 r_a6
    clear lt_x r_x0 z_x0 r_x1 z_x1 r_x2 z_x2 r_x3 z_x3 r_x4 z_x4 r_x5 z_x5 r_x6 z_x6
    have Kb2 := Kb.out.below b2
    have Kr2 := Kr.out.below b2
    have KX2 := KX.out.below b2
    have F2 := bthen F1.out b2
    have y2 := b2.size
    have lx := KX.out.lt
    have n5 : ∀ a, A5 = some a → a.block ≠ g := fun a ha => by have := R5.ge a ha; omega
    have n6 : ∀ a, B5 = some a → a.block ≠ g := fun a ha => by have := R6.ge a ha; omega
    have m5 : ∀ a, A5 = some a → a.block ≠ g2 := fun a ha => by have := R5.ge a ha; omega
    have m6 : ∀ a, B5 = some a → a.block ≠ g2 := fun a ha => by have := R6.ge a ha; omega
    have HM := Lib.hid (And.intro n5 (And.intro n6 (And.intro m5 m6)))
    have HAP := Lib.hid hap
    clear n5 n6 m5 m6 hap Ka Kb Kr KX F1 HP1 HQ1
    have lt_x := KX2.lt
    have r_x0 : v2.cell? ⟨g, 0, none⟩ = some (.int .i64 i0) := KX2.cell 0
    have z_x0 := KX2.frozen 0
    have r_x1 : v2.cell? ⟨g, 1, none⟩ = some (.int .i64 t0) := KX2.cell 1
    have z_x1 := KX2.frozen 1
    have r_x2 : v2.cell? ⟨g, 2, none⟩ = some (.slice A1 n1 c1) := KX2.cell 2
    have z_x2 := KX2.frozen 2
    have r_x3 : v2.cell? ⟨g, 3, none⟩ = some (.slice B1 m1 d1) := KX2.cell 3
    have z_x3 := KX2.frozen 3
    have r_x4 : v2.cell? ⟨g, 4, none⟩ = some (.int .i64 x0) := KX2.cell 4
    have z_x4 := KX2.frozen 4
    have r_x5 : v2.cell? ⟨g, 5, none⟩ = some (.int .i64 x1) := KX2.cell 5
    have z_x5 := KX2.frozen 5
    have r_x6 : v2.cell? ⟨g, 6, none⟩ = some (.int .i64 x2) := KX2.cell 6
    have z_x6 := KX2.frozen 6
    go_upto_region 4 with fail
    obtain ⟨v3, hv3⟩ : ∃ x : World, x = (((((((v2.setCell ⟨g, 0, none⟩ (.int .i64 i0)).setCell ⟨g, 1, none⟩ (.int .i64 t0)).setCell ⟨g, 2, none⟩ (.slice A5 n c5)).setCell ⟨g, 3, none⟩ (.slice B5 m d5)).setCell ⟨g, 4, none⟩ (.int .i64 l0)).setCell ⟨g, 5, none⟩ (.int .i64 l1)).setCell ⟨g, 6, none⟩ (.int .i64 l2)) := ⟨_, rfl⟩
    rw [← hv3]
    have KX : Hid (Blk v3 g 37 #[.int .i64 i0, .int .i64 t0, .slice A5 n c5, .slice B5 m d5, .int .i64 l0, .int .i64 l1, .int .i64 l2]) := by rw [hv3]; exact ((((((KX2.set_ 0 _).set_ 1 _).set_ 2 _).set_ 3 _).set_ 4 _).set_ 5 _).set_ 6 _
    have Kb : Hid (Blk v3 g1 43 #[.int .i64 ex, .int .i64 et, .int .i64 ec, .int .i64 es, .int .i64 2, .int .i64 ea, .int .i64 eb, .int .i64 eg, .int .i64 eh]) := by rw [hv3]; exact (((((((Kb2).far (p := ⟨g, 0, none⟩) (show g1 ≠ g by omega) _).far (p := ⟨g, 1, none⟩) (show g1 ≠ g by omega) _).far (p := ⟨g, 2, none⟩) (show g1 ≠ g by omega) _).far (p := ⟨g, 3, none⟩) (show g1 ≠ g by omega) _).far (p := ⟨g, 4, none⟩) (show g1 ≠ g by omega) _).far (p := ⟨g, 5, none⟩) (show g1 ≠ g by omega) _).far (p := ⟨g, 6, none⟩) (show g1 ≠ g by omega) _
    have Kr : Hid (Blk v3 g2 37 #[.int .i64 0, .int .i64 0, .slice none 0 0, .slice none 0 0, .int .i64 0, .int .i64 0, .int .i64 0]) := by rw [hv3]; exact (((((((Kr2).far (p := ⟨g, 0, none⟩) (show g2 ≠ g by omega) _).far (p := ⟨g, 1, none⟩) (show g2 ≠ g by omega) _).far (p := ⟨g, 2, none⟩) (show g2 ≠ g by omega) _).far (p := ⟨g, 3, none⟩) (show g2 ≠ g by omega) _).far (p := ⟨g, 4, none⟩) (show g2 ≠ g by omega) _).far (p := ⟨g, 5, none⟩) (show g2 ≠ g by omega) _).far (p := ⟨g, 6, none⟩) (show g2 ≠ g by omega) _
    have F1 : Hid (Below w.heap.size w v3) := by rw [hv3]; exact below_far7 F2 (by omega) _ _ _ _ _ _ _
    have RP : Hid (Row v3 w.heap.size 106 2 A5 n c5 (PR pl)) := by rw [hv3]; exact row_far7 (R5.mono (by omega)) HM.out.1 _ _ _ _ _ _ _
    have RQ : Hid (Row v3 w.heap.size 71 5 B5 m d5 (JB ql)) := by rw [hv3]; exact row_far7 (R6.mono (by omega)) HM.out.2.1 _ _ _ _ _ _ _
    clear hv3 Kb2 Kr2 KX2 F2 R5 R6 b2
    clear lt_x r_x0 z_x0 r_x1 z_x1 r_x2 z_x2 r_x3 z_x3 r_x4 z_x4 r_x5 z_x5 r_x6 z_x6
    have lt_b := Kb.out.lt
    have r_b0 : v3.cell? ⟨g1, 0, none⟩ = some (.int .i64 ex) := Kb.out.cell 0
    have r_b1 : v3.cell? ⟨g1, 1, none⟩ = some (.int .i64 et) := Kb.out.cell 1
    have r_b2 : v3.cell? ⟨g1, 2, none⟩ = some (.int .i64 ec) := Kb.out.cell 2
    have r_b3 : v3.cell? ⟨g1, 3, none⟩ = some (.int .i64 es) := Kb.out.cell 3
    have r_b4 : v3.cell? ⟨g1, 4, none⟩ = some (.int .i64 2) := Kb.out.cell 4
    have r_b5 : v3.cell? ⟨g1, 5, none⟩ = some (.int .i64 ea) := Kb.out.cell 5
    have r_b6 : v3.cell? ⟨g1, 6, none⟩ = some (.int .i64 eb) := Kb.out.cell 6
    have r_b7 : v3.cell? ⟨g1, 7, none⟩ = some (.int .i64 eg) := Kb.out.cell 7
    have r_b8 : v3.cell? ⟨g1, 8, none⟩ = some (.int .i64 eh) := Kb.out.cell 8
    have lt_x := KX.out.lt
    have r_x0 : v3.cell? ⟨g, 0, none⟩ = some (.int .i64 i0) := KX.out.cell 0
    have z_x0 := KX.out.frozen 0
    have r_x1 : v3.cell? ⟨g, 1, none⟩ = some (.int .i64 t0) := KX.out.cell 1
    have z_x1 := KX.out.frozen 1
    have r_x2 : v3.cell? ⟨g, 2, none⟩ = some (.slice A5 n c5) := KX.out.cell 2
    have z_x2 := KX.out.frozen 2
    have r_x3 : v3.cell? ⟨g, 3, none⟩ = some (.slice B5 m d5) := KX.out.cell 3
    have z_x3 := KX.out.frozen 3
    have r_x4 : v3.cell? ⟨g, 4, none⟩ = some (.int .i64 l0) := KX.out.cell 4
    have z_x4 := KX.out.frozen 4
    have r_x5 : v3.cell? ⟨g, 5, none⟩ = some (.int .i64 l1) := KX.out.cell 5
    have z_x5 := KX.out.frozen 5
    have r_x6 : v3.cell? ⟨g, 6, none⟩ = some (.int .i64 l2) := KX.out.cell 6
    have z_x6 := KX.out.frozen 6
    have ngb : ¬ g = g1 := by omega
    have nbg : ¬ g1 = g := by omega
    go_cut [] (fun wx => Hid (Blk wx g 37 #[.int .i64 ex, .int .i64 et, .slice A5 n c5, .slice B5 m d5, .int .i64 l0, .int .i64 l1, .int .i64 l2]) ∧ Hid (Below w.heap.size w wx) ∧ Hid (Blk wx g2 37 #[.int .i64 0, .int .i64 0, .slice none 0 0, .slice none 0 0, .int .i64 0, .int .i64 0, .int .i64 0]) ∧ Hid (Row wx w.heap.size 106 2 A5 n c5 (PR pl)) ∧ Hid (Row wx w.heap.size 71 5 B5 m d5 (JB ql)))
    case first =>
      have hS0 : ∀ b o, b < g → v3.cell? ⟨b, o, none⟩ = v3.cell? ⟨b, o, none⟩ := fun b o hb => rfl
      have lbg : g1 < g := by omega
      go_region_held_law (fun w' => ∀ b o, b < g → w'.cell? ⟨b, o, none⟩ = v3.cell? ⟨b, o, none⟩) (repeat' (first | with_reducible assumption | with_reducible exact Nat.le_refl _ | with_reducible exact hS0 | with_reducible refine hl_drew ?_ | with_reducible refine hl_set ?_ ?_ _ _)) (fail)
      all_goals
        go_wp2_with fail
        go_meet
        first
          | exact ⟨Lib.hid (((KX.out.drew).set_ 0 _).set_ 1 _), Lib.hid (((F1.out.drew).setCell (p := ⟨g, 0, none⟩) (by show w.heap.size ≤ g; omega) _).setCell (p := ⟨g, 1, none⟩) (by show w.heap.size ≤ g; omega) _), Lib.hid (((Kr.out.drew).far (p := ⟨g, 0, none⟩) (show g2 ≠ g by omega) _).far (p := ⟨g, 1, none⟩) (show g2 ≠ g by omega) _), Lib.hid (((RP.out.drew).far (p := ⟨g, 0, none⟩) HM.out.1 _).far (p := ⟨g, 1, none⟩) HM.out.1 _), Lib.hid (((RQ.out.drew).far (p := ⟨g, 0, none⟩) HM.out.2.1 _).far (p := ⟨g, 1, none⟩) HM.out.2.1 _)⟩
          | exact ⟨Lib.hid (((KX.out.drew).set_ 1 _).set_ 0 _), Lib.hid (((F1.out.drew).setCell (p := ⟨g, 1, none⟩) (by show w.heap.size ≤ g; omega) _).setCell (p := ⟨g, 0, none⟩) (by show w.heap.size ≤ g; omega) _), Lib.hid (((Kr.out.drew).far (p := ⟨g, 1, none⟩) (show g2 ≠ g by omega) _).far (p := ⟨g, 0, none⟩) (show g2 ≠ g by omega) _), Lib.hid (((RP.out.drew).far (p := ⟨g, 1, none⟩) HM.out.1 _).far (p := ⟨g, 0, none⟩) HM.out.1 _), Lib.hid (((RQ.out.drew).far (p := ⟨g, 1, none⟩) HM.out.2.1 _).far (p := ⟨g, 0, none⟩) HM.out.2.1 _)⟩
    case rest =>
      clear lt_b r_b0 r_b1 r_b2 r_b3 r_b4 r_b5 r_b6 r_b7 r_b8
      clear lt_x r_x0 z_x0 r_x1 z_x1 r_x2 z_x2 r_x3 z_x3 r_x4 z_x4 r_x5 z_x5 r_x6 z_x6
      obtain ⟨KX2, F2, Kr2, RP2, RQ2⟩ := hcut
      rename World => v4
      clear KX
      clear Kb Kr RP RQ F1
      have ngr : ¬ g = g2 := by omega
      have nrg : ¬ g2 = g := by omega
      have lt_x := KX2.out.lt
      have r_x0 : v4.cell? ⟨g, 0, none⟩ = some (.int .i64 ex) := KX2.out.cell 0
      have z_x0 := KX2.out.frozen 0
      have r_x1 : v4.cell? ⟨g, 1, none⟩ = some (.int .i64 et) := KX2.out.cell 1
      have z_x1 := KX2.out.frozen 1
      have r_x2 : v4.cell? ⟨g, 2, none⟩ = some (.slice A5 n c5) := KX2.out.cell 2
      have z_x2 := KX2.out.frozen 2
      have r_x3 : v4.cell? ⟨g, 3, none⟩ = some (.slice B5 m d5) := KX2.out.cell 3
      have z_x3 := KX2.out.frozen 3
      have r_x4 : v4.cell? ⟨g, 4, none⟩ = some (.int .i64 l0) := KX2.out.cell 4
      have z_x4 := KX2.out.frozen 4
      have r_x5 : v4.cell? ⟨g, 5, none⟩ = some (.int .i64 l1) := KX2.out.cell 5
      have z_x5 := KX2.out.frozen 5
      have r_x6 : v4.cell? ⟨g, 6, none⟩ = some (.int .i64 l2) := KX2.out.cell 6
      have z_x6 := KX2.out.frozen 6
      have lt_r := Kr2.out.lt
      have r_r0 : v4.cell? ⟨g2, 0, none⟩ = some (.int .i64 0) := Kr2.out.cell 0
      have z_r0 := Kr2.out.frozen 0
      have r_r1 : v4.cell? ⟨g2, 1, none⟩ = some (.int .i64 0) := Kr2.out.cell 1
      have z_r1 := Kr2.out.frozen 1
      have r_r2 : v4.cell? ⟨g2, 2, none⟩ = some (.slice none 0 0) := Kr2.out.cell 2
      have z_r2 := Kr2.out.frozen 2
      have r_r3 : v4.cell? ⟨g2, 3, none⟩ = some (.slice none 0 0) := Kr2.out.cell 3
      have z_r3 := Kr2.out.frozen 3
      have r_r4 : v4.cell? ⟨g2, 4, none⟩ = some (.int .i64 0) := Kr2.out.cell 4
      have z_r4 := Kr2.out.frozen 4
      have r_r5 : v4.cell? ⟨g2, 5, none⟩ = some (.int .i64 0) := Kr2.out.cell 5
      have z_r5 := Kr2.out.frozen 5
      have r_r6 : v4.cell? ⟨g2, 6, none⟩ = some (.int .i64 0) := Kr2.out.cell 6
      have z_r6 := Kr2.out.frozen 6
      go_wp21
      refine bodyPost_ret (v := .tuple #[.agg #[.int .i64 ex, .int .i64 et, .slice A5 n c5, .slice B5 m d5, .int .i64 l0, .int .i64 l1, .int .i64 l2], .int .i64 0]) (by simp [results, Tryz.results43, go_sem, *]) rfl ?_
      exact RetStateV.mk hL.out hR.out (row_far7 RP2.out HM.out.2.2.1 _ _ _ _ _ _ _) (row_far7 RQ2.out HM.out.2.2.2 _ _ _ _ _ _ _) HAP.out (below_far7 F2.out (show w.heap.size ≤ g2 by omega) _ _ _ _ _ _ _)
end Go.Proofs.YtokklkmibjpjnaaGreat
namespace Go.Proofs.YtokklkmibjpjnaaGreat
set_option linter.unusedSimpArgs false
set_option linter.unusedVariables false
attribute [local go_sem] n_lt2 n_lt3 n_lt4 n_le2 n_le3
open Go.RowKit
attribute [local go_sem] Ext.cell Ext.frozen
set_option maxRecDepth 100000 in
set_option maxHeartbeats 8000000 in
theorem applied_no3 (A : Option Addr) (n c : Nat) (B : Option Addr) (m d : Nat) (i0 t0 l0 l1 l2 : Int) (pl : List Pr) (ql : List Jb) (ex et ec es ea eb eg eh : Int) (w : World) (hP : Sl w 2 A n (PR pl)) (hQ : Sl w 5 B m (JB ql)) (hl : pl.length = n) (hr : ql.length = m) (hn : n ≤ 1000) (hm : m ≤ 1000) (hA : A = none → n = 0 ∧ c = 0) (hB : B = none → m = 0 ∧ d = 0) (p2 : List Pr) (q2 : List Jb) (h2 e2 u2 : Int) (hE : Hid (effE l0 l1 l2 pl ql ex et ec es 3 ea eb eg eh = (⟨p2, q2, h2, e2, u2⟩, false))) :
    Calls Tryz.prog 43 #[.agg #[.int .i64 i0, .int .i64 t0, .slice A n c, .slice B m d, .int .i64 l0, .int .i64 l1, .int .i64 l2], .agg #[.int .i64 ex, .int .i64 et, .int .i64 ec, .int .i64 es, .int .i64 3, .int .i64 ea, .int .i64 eb, .int .i64 eg, .int .i64 eh]] w (RetStateV w ex et l0 l1 l2 pl.length (PR pl) ql.length (JB ql) (.int .i64 0)) := by
  have HP := Lib.hid hP
  have HQ := Lib.hid hQ
  have HA := Lib.hid hA
  have HB := Lib.hid hB
  have hL := Lib.hid hl
  have hR := Lib.hid hr
  clear hP hQ hA hB hl hr
  go_enter Tryz.func43, Tryz.ntmps43
  go_upto_region 1 with fail
  obtain ⟨v0, hv0⟩ : ∃ x : World, x = (((w.alloc (.cells #[.int .i64 i0, .int .i64 t0, .slice A n c, .slice B m d, .int .i64 l0, .int .i64 l1, .int .i64 l2] 37)).alloc (.cells #[.int .i64 ex, .int .i64 et, .int .i64 ec, .int .i64 es, .int .i64 3, .int .i64 ea, .int .i64 eb, .int .i64 eg, .int .i64 eh] 43)).alloc (.cells #[.int .i64 0, .int .i64 0, .slice none 0 0, .slice none 0 0, .int .i64 0, .int .i64 0, .int .i64 0] 37)) := ⟨_, rfl⟩
  rw [← hv0]
  have f0 : Below w.heap.size w v0 := by rw [hv0]; (repeat' (first | (with_reducible exact Below.refl _ _) | (with_reducible assumption) | (with_reducible refine Below.alloc ?_ ?_ _) | (with_reducible refine Below.drew ?_) | (with_reducible refine Below.setCell ?_ ?_ _) | (with_reducible refine bstep (by assumption) ?_ ?_) | (with_reducible exact Nat.le_refl _) | omega | (simp [*]; done) | (simp [*]; omega)))
  have z0 : w.heap.size + 3 ≤ v0.heap.size := by rw [hv0]; simp [size_set]
  have HP_0 := Lib.hid (HP.out.below f0)
  have HP_lt := Lib.hid (fun hn => HP.out.lt hn)
  have HQ_0 := Lib.hid (HQ.out.below f0)
  have HQ_lt := Lib.hid (fun hn => HQ.out.lt hn)
  have Ha_0 : Hid (Blk v0 w.heap.size 37 #[.int .i64 i0, .int .i64 t0, .slice A n c, .slice B m d, .int .i64 l0, .int .i64 l1, .int .i64 l2]) := by rw [hv0]; exact ((Blk.new_at _ _ _ _ (by simp)).alloc _).alloc _
  have Hb_0 : Hid (Blk v0 (w.heap.size + 1) 43 #[.int .i64 ex, .int .i64 et, .int .i64 ec, .int .i64 es, .int .i64 3, .int .i64 ea, .int .i64 eb, .int .i64 eg, .int .i64 eh]) := by rw [hv0]; exact (Blk.new_at _ _ _ _ (by simp)).alloc _
  have Hr_0 : Hid (Blk v0 (w.heap.size + 1 + 1) 37 #[.int .i64 0, .int .i64 0, .slice none 0 0, .slice none 0 0, .int .i64 0, .int .i64 0, .int .i64 0]) := by rw [hv0]; exact Blk.new_at _ _ _ _ (by simp)
  clear hv0
  generalize hg2 : w.heap.size + 1 + 1 = g2 at *
  generalize hg1 : w.heap.size + 1 = g1 at *
  have lg1 : w.heap.size < g1 := by omega
  have lg2 : g1 < g2 := by omega
  have lgz : g2 < v0.heap.size := by omega
  have nq1x0 : ¬ g1 = w.heap.size := by omega
  have nq0x1 : ¬ w.heap.size = g1 := by omega
  have nq2x0 : ¬ g2 = w.heap.size := by omega
  have nq0x2 : ¬ w.heap.size = g2 := by omega
  have nq2x1 : ¬ g2 = g1 := by omega
  have nq1x2 : ¬ g1 = g2 := by omega
  clear hg1 hg2
  have lt_a := Ha_0.out.lt
  have r_a0 : v0.cell? ⟨w.heap.size, 0, none⟩ = some (.int .i64 i0) := Ha_0.out.cell 0
  have r_a1 : v0.cell? ⟨w.heap.size, 1, none⟩ = some (.int .i64 t0) := Ha_0.out.cell 1
  have r_a2 : v0.cell? ⟨w.heap.size, 2, none⟩ = some (.slice A n c) := Ha_0.out.cell 2
  have r_a3 : v0.cell? ⟨w.heap.size, 3, none⟩ = some (.slice B m d) := Ha_0.out.cell 3
  have r_a4 : v0.cell? ⟨w.heap.size, 4, none⟩ = some (.int .i64 l0) := Ha_0.out.cell 4
  have r_a5 : v0.cell? ⟨w.heap.size, 5, none⟩ = some (.int .i64 l1) := Ha_0.out.cell 5
  have r_a6 : v0.cell? ⟨w.heap.size, 6, none⟩ = some (.int .i64 l2) := Ha_0.out.cell 6
  have lt_b := Hb_0.out.lt
  have r_b0 : v0.cell? ⟨g1, 0, none⟩ = some (.int .i64 ex) := Hb_0.out.cell 0
  have r_b1 : v0.cell? ⟨g1, 1, none⟩ = some (.int .i64 et) := Hb_0.out.cell 1
  have r_b2 : v0.cell? ⟨g1, 2, none⟩ = some (.int .i64 ec) := Hb_0.out.cell 2
  have r_b3 : v0.cell? ⟨g1, 3, none⟩ = some (.int .i64 es) := Hb_0.out.cell 3
  have r_b4 : v0.cell? ⟨g1, 4, none⟩ = some (.int .i64 3) := Hb_0.out.cell 4
  have r_b5 : v0.cell? ⟨g1, 5, none⟩ = some (.int .i64 ea) := Hb_0.out.cell 5
  have r_b6 : v0.cell? ⟨g1, 6, none⟩ = some (.int .i64 eb) := Hb_0.out.cell 6
  have r_b7 : v0.cell? ⟨g1, 7, none⟩ = some (.int .i64 eg) := Hb_0.out.cell 7
  have r_b8 : v0.cell? ⟨g1, 8, none⟩ = some (.int .i64 eh) := Hb_0.out.cell 8
  go_cut [6, 7] (fun pv ov wx => ∃ (g : Nat) (A1 : Option Addr) (n1 c1 : Nat) (B1 : Option Addr) (m1 d1 : Nat) (x0 x1 x2 : Int), pv = .pointer (some ⟨g, 0, none⟩) ∧ ov = .bool false ∧ g2 < g ∧ v0.heap.size ≤ g ∧ Hid (Blk wx g 37 #[.int .i64 i0, .int .i64 t0, .slice A1 n1 c1, .slice B1 m1 d1, .int .i64 x0, .int .i64 x1, .int .i64 x2]) ∧ Hid (Below v0.heap.size v0 wx))
  case first =>
    have hnm : n ≤ maxLen := by unfold maxLen; omega
    have hmm : m ≤ maxLen := by unfold maxLen; omega
    have hS0 : ∀ b o, b < v0.heap.size → v0.cell? ⟨b, o, none⟩ = v0.cell? ⟨b, o, none⟩ := fun b o hb => rfl
    have ix : ∀ wz : World, (Instr.index 116 (.agg #[.nilFunc, .func (.func 97) #[] #[], .func (.func 99) #[] #[], .func (.func 101) #[] #[], .func (.func 103) #[] #[], .func (.func 107) #[] #[]]) (.int .i64 3)).run Tryz.prog wz = .ok (.func (.func 101) #[] #[]) wz := fun _ => by kernel_rfl
    go_region_held_law (fun w' => ∀ b o, b < v0.heap.size → w'.cell? ⟨b, o, none⟩ = v0.cell? ⟨b, o, none⟩) (repeat' (first | with_reducible assumption | with_reducible exact Nat.le_refl _ | with_reducible exact hS0 | with_reducible refine hl_drew ?_ | with_reducible refine hl_alloc ?_ ?_ _ | with_reducible refine hl_set7 ?_ ?_ _ _ _ _ _ _ _)) (first | (go_at_call 82; refine (effects_any _).mono ?_; rintro e u1 ⟨rfl, b1⟩; (first | (have KB : Blk u1 v0.heap.size 37 #[.int .i64 0, .int .i64 0, .slice none 0 0, .slice none 0 0, .int .i64 0, .int .i64 0, .int .i64 0] := by with_reducible exact t_below2 b1 (Blk.new_at _ _ _ _ rfl)) | (have KB : Blk u1 v0.heap.size 37 #[.int .i64 0, .int .i64 0, .slice none 0 0, .slice none 0 0, .int .i64 0, .int .i64 0, .int .i64 0] := by with_reducible exact t_below2 b1 (Blk.drew (Blk.new_at _ _ _ _ rfl))) | (have KB : Blk u1 v0.heap.size 37 #[.int .i64 0, .int .i64 0, .slice none 0 0, .slice none 0 0, .int .i64 0, .int .i64 0, .int .i64 0] := by with_reducible exact t_below2 b1 (Blk.new_at _ _ _ _ (t_drew_size _))) | (replace KB := t_below2 b1 KB) | (replace KB := t_below2 b1 (Blk.drew KB)) | skip); have E1 : Below v0.heap.size v0 u1 := (by first | with_reducible exact b1 | with_reducible exact tb_dr b1 | with_reducible exact tb_al b1 | with_reducible exact tb_da b1 | with_reducible exact tb_ad b1); have H1 := E1; have y1 := H1.size; have hS1 : ∀ b o, b < v0.heap.size → u1.cell? ⟨b, o, none⟩ = v0.cell? ⟨b, o, none⟩ := fun b o hb => H1.cell (p := ⟨b, o, none⟩) hb; have HPu := Lib.hid (HP_0.out.below E1); have HQu := Lib.hid (HQ_0.out.below E1)) | (go_at_call 101; refine (eff3_R A n c B m d i0 t0 l0 l1 l2 pl ql ex et ec es ea eb eg eh _ (by first | with_reducible exact HPu.out | with_reducible exact Sl.alloc HPu.out _) (by first | with_reducible exact HQu.out | with_reducible exact Sl.alloc HQu.out _) hL.out hR.out hnm hmm HA.out HB.out w.heap.size HP_lt.out HQ_lt.out p2 q2 h2 e2 u2 false hE).mono ?_; rintro e u2_ ⟨A1, n1, c1, B1, m1, d1, x0, x1, x2, rfl, b2, hx⟩; (first | (have KB : Blk u2_ u1.heap.size 37 #[.int .i64 0, .int .i64 0, .slice none 0 0, .slice none 0 0, .int .i64 0, .int .i64 0, .int .i64 0] := by with_reducible exact t_below2 b2 (Blk.new_at _ _ _ _ rfl)) | (have KB : Blk u2_ u1.heap.size 37 #[.int .i64 0, .int .i64 0, .slice none 0 0, .slice none 0 0, .int .i64 0, .int .i64 0, .int .i64 0] := by with_reducible exact t_below2 b2 (Blk.drew (Blk.new_at _ _ _ _ rfl))) | (have KB : Blk u2_ u1.heap.size 37 #[.int .i64 0, .int .i64 0, .slice none 0 0, .slice none 0 0, .int .i64 0, .int .i64 0, .int .i64 0] := by with_reducible exact t_below2 b2 (Blk.new_at _ _ _ _ (t_drew_size _))) | (replace KB := t_below2 b2 KB) | (replace KB := t_below2 b2 (Blk.drew KB)) | skip); have E2 : Below u1.heap.size u1 u2_ := (by first | with_reducible exact b2 | with_reducible exact tb_dr b2 | with_reducible exact tb_al b2 | with_reducible exact tb_da b2 | with_reducible exact tb_ad b2); have H2 := bthen H1 E2; have y2 := H2.size; have hS2 : ∀ b o, b < v0.heap.size → u2_.cell? ⟨b, o, none⟩ = v0.cell? ⟨b, o, none⟩ := fun b o hb => H2.cell (p := ⟨b, o, none⟩) hb; (try (have kb0 := KB.cell 0)); (try (have kf0 := KB.frozen 0)); (try (have kb1 := KB.cell 1)); (try (have kf1 := KB.frozen 1)); (try (have kb2 := KB.cell 2)); (try (have kf2 := KB.frozen 2)); (try (have kb3 := KB.cell 3)); (try (have kf3 := KB.frozen 3)); (try (have kb4 := KB.cell 4)); (try (have kf4 := KB.frozen 4)); (try (have kb5 := KB.cell 5)); (try (have kf5 := KB.frozen 5)); (try (have kb6 := KB.cell 6)); (try (have kf6 := KB.frozen 6)); (try (have kbl := KB.lt))))
    all_goals
      have s1 := b1.size
      have s2 := b2.size
      (try simp only [t_size_alloc, ← t_drew_size] at s1)
      (try simp only [t_size_alloc, ← t_drew_size] at s2)
      go_wp2_with fail
      go_meet
      first
        | (with_reducible refine ⟨u2_.heap.size, A1, n1, c1, B1, m1, d1, x0, x1, x2, rfl, rfl, ?_, ?_, ?_, ?_⟩
           · omega
           · omega
           · exact Lib.hid (Blk.new_at _ _ _ _ rfl)
           · exact Lib.hid (H2.alloc y2 _))
        | (with_reducible refine ⟨u1.heap.size, A1, n1, c1, B1, m1, d1, x0, x1, x2, rfl, rfl, ?_, ?_, ?_, ?_⟩
           · omega
           · omega
           · exact Lib.hid (((((((KB.set_ 0 _).set_ 1 _).set_ 2 _).set_ 3 _).set_ 4 _).set_ 5 _).set_ 6 _)
           · exact Lib.hid (below_far7 H2 (by omega) _ _ _ _ _ _ _))
        | (with_reducible refine ⟨v0.heap.size, A1, n1, c1, B1, m1, d1, x0, x1, x2, rfl, rfl, ?_, ?_, ?_, ?_⟩
           · omega
           · omega
           · exact Lib.hid (((((((KB.set_ 0 _).set_ 1 _).set_ 2 _).set_ 3 _).set_ 4 _).set_ 5 _).set_ 6 _)
           · exact Lib.hid (below_far7 H2 (by omega) _ _ _ _ _ _ _))
  case rest =>
    obtain ⟨g, A1, n1, c1, B1, m1, d1, x0, x1, x2, rfl, rfl, hg2, hgz, KX, E1⟩ := hcut
    rename World => v1
    clear lt_a r_a0 r_a1 r_a2 r_a3 r_a4 r_a5 r_a6 lt_b r_b0 r_b1 r_b2 r_b3 r_b4 r_b5 r_b6 r_b7 r_b8
    have F1 := Lib.hid (bthen f0 E1.out)
    have y1 := E1.out.size
    have Ka := Lib.hid (Ha_0.out.below E1.out)
    have Kb := Lib.hid (Hb_0.out.below E1.out)
    have Kr := Lib.hid (Hr_0.out.below E1.out)
    have HP1 := Lib.hid (HP_0.out.below E1.out)
    have HQ1 := Lib.hid (HQ_0.out.below E1.out)
    clear Ha_0 Hb_0 Hr_0 HP_0 HQ_0 HP_lt HQ_lt HP HQ
    have lt_a := Ka.out.lt
    have r_a0 : v1.cell? ⟨w.heap.size, 0, none⟩ = some (.int .i64 i0) := Ka.out.cell 0
    have r_a1 : v1.cell? ⟨w.heap.size, 1, none⟩ = some (.int .i64 t0) := Ka.out.cell 1
    have r_a2 : v1.cell? ⟨w.heap.size, 2, none⟩ = some (.slice A n c) := Ka.out.cell 2
    have r_a3 : v1.cell? ⟨w.heap.size, 3, none⟩ = some (.slice B m d) := Ka.out.cell 3
    have r_a4 : v1.cell? ⟨w.heap.size, 4, none⟩ = some (.int .i64 l0) := Ka.out.cell 4
    have r_a5 : v1.cell? ⟨w.heap.size, 5, none⟩ = some (.int .i64 l1) := Ka.out.cell 5
    have r_a6 : v1.cell? ⟨w.heap.size, 6, none⟩ = some (.int .i64 l2) := Ka.out.cell 6
    have lt_x := KX.out.lt
    have r_x0 : v1.cell? ⟨g, 0, none⟩ = some (.int .i64 i0) := KX.out.cell 0
    have z_x0 := KX.out.frozen 0
    have r_x1 : v1.cell? ⟨g, 1, none⟩ = some (.int .i64 t0) := KX.out.cell 1
    have z_x1 := KX.out.frozen 1
    have r_x2 : v1.cell? ⟨g, 2, none⟩ = some (.slice A1 n1 c1) := KX.out.cell 2
    have z_x2 := KX.out.frozen 2
    have r_x3 : v1.cell? ⟨g, 3, none⟩ = some (.slice B1 m1 d1) := KX.out.cell 3
    have z_x3 := KX.out.frozen 3
    have r_x4 : v1.cell? ⟨g, 4, none⟩ = some (.int .i64 x0) := KX.out.cell 4
    have z_x4 := KX.out.frozen 4
    have r_x5 : v1.cell? ⟨g, 5, none⟩ = some (.int .i64 x1) := KX.out.cell 5
    have z_x5 := KX.out.frozen 5
    have r_x6 : v1.cell? ⟨g, 6, none⟩ = some (.int .i64 x2) := KX.out.cell 6
    have z_x6 := KX.out.frozen 6
    go_wp2_with fail
    refine (copyState_any A n c B m d i0 t0 l0 l1 l2 pl ql _ HP1.out HQ1.out hL.out hR.out hn hm HA.out HB.out).mono ?_
    rintro e v2 ⟨A5, c5, B5, d5, rfl, R5, R6, hap, b2⟩
    clear lt_a r_a0 r_a1 r_a2 r_a3 r_a4 r_a5 r_a6
    clear lt_x r_x0 z_x0 r_x1 z_x1 r_x2 z_x2 r_x3 z_x3 r_x4 z_x4 r_x5 z_x5 r_x6 z_x6
    have Kb2 := Kb.out.below b2
    have Kr2 := Kr.out.below b2
    have KX2 := KX.out.below b2
    have F2 := bthen F1.out b2
    have y2 := b2.size
    have lx := KX.out.lt
    have n5 : ∀ a, A5 = some a → a.block ≠ g := fun a ha => by have := R5.ge a ha; omega
    have n6 : ∀ a, B5 = some a → a.block ≠ g := fun a ha => by have := R6.ge a ha; omega
    have m5 : ∀ a, A5 = some a → a.block ≠ g2 := fun a ha => by have := R5.ge a ha; omega
    have m6 : ∀ a, B5 = some a → a.block ≠ g2 := fun a ha => by have := R6.ge a ha; omega
    have HM := Lib.hid (And.intro n5 (And.intro n6 (And.intro m5 m6)))
    have HAP := Lib.hid hap
    clear n5 n6 m5 m6 hap Ka Kb Kr KX F1 HP1 HQ1
    have lt_x := KX2.lt
    have r_x0 : v2.cell? ⟨g, 0, none⟩ = some (.int .i64 i0) := KX2.cell 0
    have z_x0 := KX2.frozen 0
    have r_x1 : v2.cell? ⟨g, 1, none⟩ = some (.int .i64 t0) := KX2.cell 1
    have z_x1 := KX2.frozen 1
    have r_x2 : v2.cell? ⟨g, 2, none⟩ = some (.slice A1 n1 c1) := KX2.cell 2
    have z_x2 := KX2.frozen 2
    have r_x3 : v2.cell? ⟨g, 3, none⟩ = some (.slice B1 m1 d1) := KX2.cell 3
    have z_x3 := KX2.frozen 3
    have r_x4 : v2.cell? ⟨g, 4, none⟩ = some (.int .i64 x0) := KX2.cell 4
    have z_x4 := KX2.frozen 4
    have r_x5 : v2.cell? ⟨g, 5, none⟩ = some (.int .i64 x1) := KX2.cell 5
    have z_x5 := KX2.frozen 5
    have r_x6 : v2.cell? ⟨g, 6, none⟩ = some (.int .i64 x2) := KX2.cell 6
    have z_x6 := KX2.frozen 6
    go_upto_region 4 with fail
    obtain ⟨v3, hv3⟩ : ∃ x : World, x = (((((((v2.setCell ⟨g, 0, none⟩ (.int .i64 i0)).setCell ⟨g, 1, none⟩ (.int .i64 t0)).setCell ⟨g, 2, none⟩ (.slice A5 n c5)).setCell ⟨g, 3, none⟩ (.slice B5 m d5)).setCell ⟨g, 4, none⟩ (.int .i64 l0)).setCell ⟨g, 5, none⟩ (.int .i64 l1)).setCell ⟨g, 6, none⟩ (.int .i64 l2)) := ⟨_, rfl⟩
    rw [← hv3]
    have KX : Hid (Blk v3 g 37 #[.int .i64 i0, .int .i64 t0, .slice A5 n c5, .slice B5 m d5, .int .i64 l0, .int .i64 l1, .int .i64 l2]) := by rw [hv3]; exact ((((((KX2.set_ 0 _).set_ 1 _).set_ 2 _).set_ 3 _).set_ 4 _).set_ 5 _).set_ 6 _
    have Kb : Hid (Blk v3 g1 43 #[.int .i64 ex, .int .i64 et, .int .i64 ec, .int .i64 es, .int .i64 3, .int .i64 ea, .int .i64 eb, .int .i64 eg, .int .i64 eh]) := by rw [hv3]; exact (((((((Kb2).far (p := ⟨g, 0, none⟩) (show g1 ≠ g by omega) _).far (p := ⟨g, 1, none⟩) (show g1 ≠ g by omega) _).far (p := ⟨g, 2, none⟩) (show g1 ≠ g by omega) _).far (p := ⟨g, 3, none⟩) (show g1 ≠ g by omega) _).far (p := ⟨g, 4, none⟩) (show g1 ≠ g by omega) _).far (p := ⟨g, 5, none⟩) (show g1 ≠ g by omega) _).far (p := ⟨g, 6, none⟩) (show g1 ≠ g by omega) _
    have Kr : Hid (Blk v3 g2 37 #[.int .i64 0, .int .i64 0, .slice none 0 0, .slice none 0 0, .int .i64 0, .int .i64 0, .int .i64 0]) := by rw [hv3]; exact (((((((Kr2).far (p := ⟨g, 0, none⟩) (show g2 ≠ g by omega) _).far (p := ⟨g, 1, none⟩) (show g2 ≠ g by omega) _).far (p := ⟨g, 2, none⟩) (show g2 ≠ g by omega) _).far (p := ⟨g, 3, none⟩) (show g2 ≠ g by omega) _).far (p := ⟨g, 4, none⟩) (show g2 ≠ g by omega) _).far (p := ⟨g, 5, none⟩) (show g2 ≠ g by omega) _).far (p := ⟨g, 6, none⟩) (show g2 ≠ g by omega) _
    have F1 : Hid (Below w.heap.size w v3) := by rw [hv3]; exact below_far7 F2 (by omega) _ _ _ _ _ _ _
    have RP : Hid (Row v3 w.heap.size 106 2 A5 n c5 (PR pl)) := by rw [hv3]; exact row_far7 (R5.mono (by omega)) HM.out.1 _ _ _ _ _ _ _
    have RQ : Hid (Row v3 w.heap.size 71 5 B5 m d5 (JB ql)) := by rw [hv3]; exact row_far7 (R6.mono (by omega)) HM.out.2.1 _ _ _ _ _ _ _
    clear hv3 Kb2 Kr2 KX2 F2 R5 R6 b2
    clear lt_x r_x0 z_x0 r_x1 z_x1 r_x2 z_x2 r_x3 z_x3 r_x4 z_x4 r_x5 z_x5 r_x6 z_x6
    have lt_b := Kb.out.lt
    have r_b0 : v3.cell? ⟨g1, 0, none⟩ = some (.int .i64 ex) := Kb.out.cell 0
    have r_b1 : v3.cell? ⟨g1, 1, none⟩ = some (.int .i64 et) := Kb.out.cell 1
    have r_b2 : v3.cell? ⟨g1, 2, none⟩ = some (.int .i64 ec) := Kb.out.cell 2
    have r_b3 : v3.cell? ⟨g1, 3, none⟩ = some (.int .i64 es) := Kb.out.cell 3
    have r_b4 : v3.cell? ⟨g1, 4, none⟩ = some (.int .i64 3) := Kb.out.cell 4
    have r_b5 : v3.cell? ⟨g1, 5, none⟩ = some (.int .i64 ea) := Kb.out.cell 5
    have r_b6 : v3.cell? ⟨g1, 6, none⟩ = some (.int .i64 eb) := Kb.out.cell 6
    have r_b7 : v3.cell? ⟨g1, 7, none⟩ = some (.int .i64 eg) := Kb.out.cell 7
    have r_b8 : v3.cell? ⟨g1, 8, none⟩ = some (.int .i64 eh) := Kb.out.cell 8
    have lt_x := KX.out.lt
    have r_x0 : v3.cell? ⟨g, 0, none⟩ = some (.int .i64 i0) := KX.out.cell 0
    have z_x0 := KX.out.frozen 0
    have r_x1 : v3.cell? ⟨g, 1, none⟩ = some (.int .i64 t0) := KX.out.cell 1
    have z_x1 := KX.out.frozen 1
    have r_x2 : v3.cell? ⟨g, 2, none⟩ = some (.slice A5 n c5) := KX.out.cell 2
    have z_x2 := KX.out.frozen 2
    have r_x3 : v3.cell? ⟨g, 3, none⟩ = some (.slice B5 m d5) := KX.out.cell 3
    have z_x3 := KX.out.frozen 3
    have r_x4 : v3.cell? ⟨g, 4, none⟩ = some (.int .i64 l0) := KX.out.cell 4
    have z_x4 := KX.out.frozen 4
    have r_x5 : v3.cell? ⟨g, 5, none⟩ = some (.int .i64 l1) := KX.out.cell 5
    have z_x5 := KX.out.frozen 5
    have r_x6 : v3.cell? ⟨g, 6, none⟩ = some (.int .i64 l2) := KX.out.cell 6
    have z_x6 := KX.out.frozen 6
    have ngb : ¬ g = g1 := by omega
    have nbg : ¬ g1 = g := by omega
    go_cut [] (fun wx => Hid (Blk wx g 37 #[.int .i64 ex, .int .i64 et, .slice A5 n c5, .slice B5 m d5, .int .i64 l0, .int .i64 l1, .int .i64 l2]) ∧ Hid (Below w.heap.size w wx) ∧ Hid (Blk wx g2 37 #[.int .i64 0, .int .i64 0, .slice none 0 0, .slice none 0 0, .int .i64 0, .int .i64 0, .int .i64 0]) ∧ Hid (Row wx w.heap.size 106 2 A5 n c5 (PR pl)) ∧ Hid (Row wx w.heap.size 71 5 B5 m d5 (JB ql)))
    case first =>
      have hS0 : ∀ b o, b < g → v3.cell? ⟨b, o, none⟩ = v3.cell? ⟨b, o, none⟩ := fun b o hb => rfl
      have lbg : g1 < g := by omega
      go_region_held_law (fun w' => ∀ b o, b < g → w'.cell? ⟨b, o, none⟩ = v3.cell? ⟨b, o, none⟩) (repeat' (first | with_reducible assumption | with_reducible exact Nat.le_refl _ | with_reducible exact hS0 | with_reducible refine hl_drew ?_ | with_reducible refine hl_set ?_ ?_ _ _)) (fail)
      all_goals
        go_wp2_with fail
        go_meet
        first
          | exact ⟨Lib.hid (((KX.out.drew).set_ 0 _).set_ 1 _), Lib.hid (((F1.out.drew).setCell (p := ⟨g, 0, none⟩) (by show w.heap.size ≤ g; omega) _).setCell (p := ⟨g, 1, none⟩) (by show w.heap.size ≤ g; omega) _), Lib.hid (((Kr.out.drew).far (p := ⟨g, 0, none⟩) (show g2 ≠ g by omega) _).far (p := ⟨g, 1, none⟩) (show g2 ≠ g by omega) _), Lib.hid (((RP.out.drew).far (p := ⟨g, 0, none⟩) HM.out.1 _).far (p := ⟨g, 1, none⟩) HM.out.1 _), Lib.hid (((RQ.out.drew).far (p := ⟨g, 0, none⟩) HM.out.2.1 _).far (p := ⟨g, 1, none⟩) HM.out.2.1 _)⟩
          | exact ⟨Lib.hid (((KX.out.drew).set_ 1 _).set_ 0 _), Lib.hid (((F1.out.drew).setCell (p := ⟨g, 1, none⟩) (by show w.heap.size ≤ g; omega) _).setCell (p := ⟨g, 0, none⟩) (by show w.heap.size ≤ g; omega) _), Lib.hid (((Kr.out.drew).far (p := ⟨g, 1, none⟩) (show g2 ≠ g by omega) _).far (p := ⟨g, 0, none⟩) (show g2 ≠ g by omega) _), Lib.hid (((RP.out.drew).far (p := ⟨g, 1, none⟩) HM.out.1 _).far (p := ⟨g, 0, none⟩) HM.out.1 _), Lib.hid (((RQ.out.drew).far (p := ⟨g, 1, none⟩) HM.out.2.1 _).far (p := ⟨g, 0, none⟩) HM.out.2.1 _)⟩
    case rest =>
      clear lt_b r_b0 r_b1 r_b2 r_b3 r_b4 r_b5 r_b6 r_b7 r_b8
      clear lt_x r_x0 z_x0 r_x1 z_x1 r_x2 z_x2 r_x3 z_x3 r_x4 z_x4 r_x5 z_x5 r_x6 z_x6
      obtain ⟨KX2, F2, Kr2, RP2, RQ2⟩ := hcut
      rename World => v4
      clear KX
      clear Kb Kr RP RQ F1
      have ngr : ¬ g = g2 := by omega
      have nrg : ¬ g2 = g := by omega
      have lt_x := KX2.out.lt
      have r_x0 : v4.cell? ⟨g, 0, none⟩ = some (.int .i64 ex) := KX2.out.cell 0
      have z_x0 := KX2.out.frozen 0
      have r_x1 : v4.cell? ⟨g, 1, none⟩ = some (.int .i64 et) := KX2.out.cell 1
      have z_x1 := KX2.out.frozen 1
      have r_x2 : v4.cell? ⟨g, 2, none⟩ = some (.slice A5 n c5) := KX2.out.cell 2
      have z_x2 := KX2.out.frozen 2
      have r_x3 : v4.cell? ⟨g, 3, none⟩ = some (.slice B5 m d5) := KX2.out.cell 3
      have z_x3 := KX2.out.frozen 3
      have r_x4 : v4.cell? ⟨g, 4, none⟩ = some (.int .i64 l0) := KX2.out.cell 4
      have z_x4 := KX2.out.frozen 4
      have r_x5 : v4.cell? ⟨g, 5, none⟩ = some (.int .i64 l1) := KX2.out.cell 5
      have z_x5 := KX2.out.frozen 5
      have r_x6 : v4.cell? ⟨g, 6, none⟩ = some (.int .i64 l2) := KX2.out.cell 6
      have z_x6 := KX2.out.frozen 6
      have lt_r := Kr2.out.lt
      have r_r0 : v4.cell? ⟨g2, 0, none⟩ = some (.int .i64 0) := Kr2.out.cell 0
      have z_r0 := Kr2.out.frozen 0
      have r_r1 : v4.cell? ⟨g2, 1, none⟩ = some (.int .i64 0) := Kr2.out.cell 1
      have z_r1 := Kr2.out.frozen 1
      have r_r2 : v4.cell? ⟨g2, 2, none⟩ = some (.slice none 0 0) := Kr2.out.cell 2
      have z_r2 := Kr2.out.frozen 2
      have r_r3 : v4.cell? ⟨g2, 3, none⟩ = some (.slice none 0 0) := Kr2.out.cell 3
      have z_r3 := Kr2.out.frozen 3
      have r_r4 : v4.cell? ⟨g2, 4, none⟩ = some (.int .i64 0) := Kr2.out.cell 4
      have z_r4 := Kr2.out.frozen 4
      have r_r5 : v4.cell? ⟨g2, 5, none⟩ = some (.int .i64 0) := Kr2.out.cell 5
      have z_r5 := Kr2.out.frozen 5
      have r_r6 : v4.cell? ⟨g2, 6, none⟩ = some (.int .i64 0) := Kr2.out.cell 6
      have z_r6 := Kr2.out.frozen 6
      go_wp21
      refine bodyPost_ret (v := .tuple #[.agg #[.int .i64 ex, .int .i64 et, .slice A5 n c5, .slice B5 m d5, .int .i64 l0, .int .i64 l1, .int .i64 l2], .int .i64 0]) (by simp [results, Tryz.results43, go_sem, *]) rfl ?_
      exact RetStateV.mk hL.out hR.out (row_far7 RP2.out HM.out.2.2.1 _ _ _ _ _ _ _) (row_far7 RQ2.out HM.out.2.2.2 _ _ _ _ _ _ _) HAP.out (below_far7 F2.out (show w.heap.size ≤ g2 by omega) _ _ _ _ _ _ _)
end Go.Proofs.YtokklkmibjpjnaaGreat

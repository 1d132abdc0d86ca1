/- Part 6 of what the claim rests on: LoA, LoY, LoZ, LxB, LxC, OrdP. No condition of its own. -/
import Derived.Test.YtbheflinchabgaaGreatDoorBd5
import Derived.OrdersHeld
import Derived.Deep.RegionHeld
namespace Go.Proofs.YtbheflinchabgaaGreatDoor
set_option linter.unusedSimpArgs false
set_option linter.unusedVariables false
attribute [local go_sem] n_lt2 n_lt3 n_lt4 n_le2 n_le3
open Go.RowKit
attribute [local go_sem] Ext.cell Ext.frozen
/-- Two lists of numbers in a box, each a row of the call's own. -/
structure Sp (w : World) (lo g E F : Nat) (A : Option Addr) (n c : Nat) (z : List Int) (B : Option Addr) (m d : Nat) (y : List Int) : Prop where
  s : Blk w g E #[.slice A n c, .slice B m d]
  a : Row w lo F 1 A n c z
  b : Row w lo F 1 B m d y
  ap : ∀ p q, A = some p → B = some q → p.block ≠ q.block
  g : g < lo
theorem Sp.below {w w' : World} {lo g E F : Nat} {A : Option Addr} {n c : Nat} {z : List Int} {B : Option Addr} {m d : Nat} {y : List Int} (h : Sp w lo g E F A n c z B m d y) (hb : Below w.heap.size w w') : Sp w' lo g E F A n c z B m d y := ⟨h.s.below hb, h.a.below hb, h.b.below hb, h.ap, h.g⟩
theorem Sp.left {w w6 : World} {lo g E F : Nat} {A A6 : Option Addr} {n c c6 : Nat} {z z6 : List Int} {B : Option Addr} {m d n6 : Nat} {y : List Int} {o : Obj} (h : Sp w lo g E F A n c z B m d y) (R6 : Row w6 lo F 1 A6 n6 c6 z6) (W6 : Wrote (w.alloc o) w6 A) (L6 : ∀ a', A6 = some a' → (∃ a, A = some a ∧ a.block = a'.block) ∨ a'.block = (w.alloc o).heap.size) :
    Sp (w6.setCell ⟨g, 0, none⟩ (.slice A6 n6 c6)) lo g E F A6 n6 c6 z6 B m d y := by
  have hsz : (w.alloc o).heap.size = w.heap.size + 1 := by simp
  have hge : ∀ a, A = some a → a.block ≠ g := fun a ha => by have := h.a.ge a ha; have := h.g; omega
  refine ⟨((h.s.alloc o).wroteA W6 hge).set_ 0 _, R6.far (fun a ha => by have := R6.ge a ha; have := h.g; show a.block ≠ g; omega) _, ((h.b.alloc o).wrote W6 (apart_symm h.ap)).far (fun a ha => by have := h.b.ge a ha; have := h.g; show a.block ≠ g; omega) _, fun p q hp hq => ?_, h.g⟩
  rcases L6 p hp with ⟨a, ha, hap⟩ | hnew
  · rw [← hap]
    exact h.ap a q ha hq
  · have := h.b.lt q hq
    omega
theorem Sp.right {w w6 : World} {lo g E F : Nat} {A B6 : Option Addr} {n c d6 : Nat} {z y6 : List Int} {B : Option Addr} {m d m6 : Nat} {y : List Int} {o : Obj} (h : Sp w lo g E F A n c z B m d y) (R6 : Row w6 lo F 1 B6 m6 d6 y6) (W6 : Wrote (w.alloc o) w6 B) (L6 : ∀ a', B6 = some a' → (∃ a, B = some a ∧ a.block = a'.block) ∨ a'.block = (w.alloc o).heap.size) :
    Sp (w6.setCell ⟨g, 1, none⟩ (.slice B6 m6 d6)) lo g E F A n c z B6 m6 d6 y6 := by
  have hsz : (w.alloc o).heap.size = w.heap.size + 1 := by simp
  have hge : ∀ a, B = some a → a.block ≠ g := fun a ha => by have := h.b.ge a ha; have := h.g; omega
  refine ⟨((h.s.alloc o).wroteA W6 hge).set_ 1 _, ((h.a.alloc o).wrote W6 h.ap).far (fun a ha => by have := h.a.ge a ha; have := h.g; show a.block ≠ g; omega) _, R6.far (fun a ha => by have := R6.ge a ha; have := h.g; show a.block ≠ g; omega) _, fun p q hp hq => ?_, h.g⟩
  rcases L6 q hq with ⟨a, ha, hap⟩ | hnew
  · rw [← hap]
    exact h.ap p a hp ha
  · have := h.a.lt p hp
    omega
theorem Blk.offW {w w6 : World} {g E lo F n c : Nat} {z : List Int} {A : Option Addr} {cs : Array Value} {o : Obj} (h : Blk w g E cs) (hA : Row w lo F 1 A n c z) (W6 : Wrote (w.alloc o) w6 A) (hg : g < lo) {k : Nat} (hk : g ≠ k) (j : Nat) (u : Value) : Blk (w6.setCell ⟨k, j, none⟩ u) g E cs :=
  ((h.alloc o).wroteA W6 (fun a ha => by have := hA.ge a ha; omega)).far hk u
/-- What a crash of both disks hands back. -/
def RetFall (w : World) (ra : List (List Int)) (wa : List (Int × List Int)) (rb : List (List Int)) (wb : List (Int × List Int)) (e : Ending) (w' : World) : Prop := ∃ ra' rb', FallW ra wa ra' ∧ FallW rb wb rb' ∧ RetTw w 0 0 ra' [] rb' [] id e w'
theorem sp3 {w : World} {g h k j x y : Nat} {u v z : Value} (hh : w.cell? ⟨g, j, none⟩ = some z) (hg : g ≠ k) : ((w.setCell ⟨k, x, none⟩ u).setCell ⟨k, y, none⟩ v).cell? ⟨g, j, none⟩ = some z :=
  (World.cell?_setCell_far _ _ _ _ (by show k ≠ g; omega)).trans ((World.cell?_setCell_far _ _ _ _ (by show k ≠ g; omega)).trans hh)
theorem sp3c {w : World} {g1 g2 k j1 j2 j3 x y : Nat} {u v z1 z2 z3 : Value} (hh : w.cell? ⟨g1, j1, none⟩ = some z1 ∧ w.cell? ⟨g1, j2, none⟩ = some z2 ∧ w.cell? ⟨g2, j3, none⟩ = some z3) (h1 : g1 ≠ k) (h2 : g2 ≠ k) : ((w.setCell ⟨k, x, none⟩ u).setCell ⟨k, y, none⟩ v).cell? ⟨g1, j1, none⟩ = some z1 ∧ ((w.setCell ⟨k, x, none⟩ u).setCell ⟨k, y, none⟩ v).cell? ⟨g1, j2, none⟩ = some z2 ∧ ((w.setCell ⟨k, x, none⟩ u).setCell ⟨k, y, none⟩ v).cell? ⟨g2, j3, none⟩ = some z3 :=
  ⟨sp3 (h := 0) hh.1 h1, sp3 (h := 0) hh.2.1 h1, sp3 (h := 0) hh.2.2 h2⟩
set_option maxRecDepth 100000 in
set_option maxHeartbeats 8000000 in
theorem bothFallen_any (KA WA KB WB F : Option Addr) (cA dA cB dB ma mb nf cf : Nat) (ra rb : List (List Int)) (wa wb : List (Int × List Int)) (fs : List Int) (w : World) (hA : Dk w KA 22 WA ma ra wa) (hB : Dk w KB 22 WB mb rb wb) (ha : ma ≤ 1) (hb : mb ≤ 1) (hF : Sl w 1 F nf fs) (hnf : nf ≤ 1000)
    (hza : ∀ x ∈ wa, 0 < x.2.length ∧ (ra.getD x.1.toNat []).length ≤ x.2.length / 2) (hzb : ∀ x ∈ wb, 0 < x.2.length ∧ (rb.getD x.1.toNat []).length ≤ x.2.length / 2) :
    Calls Tryz.prog 39 #[.agg #[.slice KA 22 cA, .slice WA ma dA, .slice KB 22 cB, .slice WB mb dB], .slice F nf cf] w (RetFall w ra wa rb wb) := by
  have HZA := Lib.hid hza
  have HZB := Lib.hid hzb
  clear hza hzb
  have HIA : Hid (On (Rg 0 w.heap.size) (fun x => Dk x KA 22 WA ma ra wa) w) := Lib.hid (On.below_of (fun _ hb => (hA).below hb))
  clear hA
  have HIB : Hid (On (Rg 0 w.heap.size) (fun x => Dk x KB 22 WB mb rb wb) w) := Lib.hid (On.below_of (fun _ hb => (hB).below hb))
  clear hB
  have HIF : Hid (On (Rg 0 w.heap.size) (fun x => Sl x 1 F nf fs) w) := Lib.hid (On.below_of (fun _ hb => (hF).below hb))
  clear hF
  go_enter Tryz.func39, Tryz.ntmps39
  go_wp2_with fail
  refine calls_named ?_
  rintro v0 hv0
  have f0 : Below w.heap.size w v0 := by rw [hv0]; (repeat' (first | (with_reducible exact Below.refl _ _) | (with_reducible assumption) | (with_reducible refine Below.alloc ?_ ?_ _) | (with_reducible refine Below.drew ?_) | (with_reducible refine Below.setCell ?_ ?_ _) | (with_reducible refine bstep (by assumption) ?_ ?_) | (with_reducible exact Nat.le_refl _) | omega | (simp [*]; done) | (simp [*]; omega)))
  have z0 : w.heap.size + 2 ≤ v0.heap.size := by rw [hv0]; simp [size_set]
  have HT_0 : Hid (Blk v0 w.heap.size 42 #[.slice KA 22 cA, .slice WA ma dA, .slice KB 22 cB, .slice WB mb dB]) := by rw [hv0]; exact Lib.hid (((Blk.new_at _ _ _ _ (by simp [size_set]))).alloc _)
  have HR_0 : Hid (Blk v0 (w.heap.size + 1) 42 #[.slice none 0 0, .slice none 0 0, .slice none 0 0, .slice none 0 0]) := by rw [hv0]; exact Lib.hid ((Blk.new_at _ _ _ _ (by simp [size_set])))
  clear hv0
  obtain ⟨gR, hgR⟩ : ∃ q, q = w.heap.size + 1 := ⟨_, rfl⟩
  rw [← hgR] at HR_0
  try rw [← hgR]
  have lgR : w.heap.size ≤ gR := by omega
  have mgR : gR < v0.heap.size := by omega
  have ngR : ∀ k, w.heap.size ≤ k → k ≠ gR → True := fun _ _ _ => trivial
  clear ngR
  obtain ⟨gT, hgT⟩ : ∃ q, q = w.heap.size := ⟨_, rfl⟩
  rw [← hgT] at HT_0
  try rw [← hgT]
  have lgT : w.heap.size ≤ gT := by omega
  have mgT : gT < v0.heap.size := by omega
  have ngT : ∀ k, w.heap.size ≤ k → k ≠ gT → True := fun _ _ _ => trivial
  clear ngT
  have nnTR : gT < gR := by omega
  clear hgT
  clear hgR
  refine (twoOk_yes KA WA KB WB 22 cA ma dA cB mb dB ra rb wa wb v0 ((HIA.out).inB f0 (fun _ hk => hk.2)).out ((HIB.out).inB f0 (fun _ hk => hk.2)).out).mono ?_
  rintro e v1 ⟨rfl, b1⟩
  have f1 := bthen f0 b1
  have z1 := b1.size
  have HT_1 := Lib.hid (HT_0.out.below b1)
  have HR_1 := Lib.hid (HR_0.out.below b1)
  clear HT_0 HR_0
  go_upto_region 4 with fail
  obtain ⟨v2, hv2⟩ : ∃ x : World, x = (v1.alloc (.cells #[.slice none 0 0, .slice none 0 0] 172)) := ⟨_, rfl⟩
  rw [← hv2]
  have f2 : Below w.heap.size w v2 := by rw [hv2]; (repeat' (first | (with_reducible exact Below.refl _ _) | (with_reducible assumption) | (with_reducible refine Below.alloc ?_ ?_ _) | (with_reducible refine Below.drew ?_) | (with_reducible refine Below.setCell ?_ ?_ _) | (with_reducible refine bstep (by assumption) ?_ ?_) | (with_reducible exact Nat.le_refl _) | omega | (simp [*]; done) | (simp [*]; omega)))
  have z2 : v1.heap.size + 1 ≤ v2.heap.size := by rw [hv2]; simp [size_set]
  have HT_2 : Hid (Blk v2 gT 42 #[.slice KA 22 cA, .slice WA ma dA, .slice KB 22 cB, .slice WB mb dB]) := by rw [hv2]; exact Lib.hid ((HT_1.out).alloc _)
  have HR_2 : Hid (Blk v2 gR 42 #[.slice none 0 0, .slice none 0 0, .slice none 0 0, .slice none 0 0]) := by rw [hv2]; exact Lib.hid ((HR_1.out).alloc _)
  have HS_2 : Hid (Blk v2 v1.heap.size 172 #[.slice none 0 0, .slice none 0 0]) := by rw [hv2]; exact Lib.hid ((Blk.new_at _ _ _ _ (by simp [size_set])))
  clear hv2 HT_1 HR_1
  obtain ⟨gS, hgS⟩ : ∃ q, q = v1.heap.size := ⟨_, rfl⟩
  rw [← hgS] at HS_2
  try rw [← hgS]
  have lgS : v1.heap.size ≤ gS := by omega
  have mgS : gS < v2.heap.size := by omega
  have ngS : ∀ k, v1.heap.size ≤ k → k ≠ gS → True := fun _ _ _ => trivial
  clear ngS
  clear hgS
  go_wp2_with fail
  have HSP : Hid (Sp v2 v2.heap.size gS 172 2 none 0 0 [] none 0 0 []) := Lib.hid ⟨HS_2.out, Row.nil _ _ _ _, Row.nil _ _ _ _, fun p q hp => (by cases hp), mgS⟩
  clear HS_2
  go_loopw [18] (fun iv wr => ∃ (k n m : Nat) (A B : Option Addr) (c d : Nat) (z y : List Int), k ≤ nf ∧ iv = .int .i64 k ∧ n + m = k ∧ Hid (Sp wr v2.heap.size gS 172 2 A n c z B m d y) ∧ Hid (Blk wr gT 42 #[.slice KA 22 cA, .slice WA ma dA, .slice KB 22 cB, .slice WB mb dB]) ∧ Hid (Blk wr gR 42 #[.slice none 0 0, .slice none 0 0, .slice none 0 0, .slice none 0 0]) ∧ Hid (Below w.heap.size w wr) ∧ v2.heap.size ≤ wr.heap.size) (fun iv _ => nf - (intOf iv).toNat)
  case atStart => exact ⟨0, 0, 0, none, none, 0, 0, [], [], Nat.zero_le _, rfl, rfl, HSP, HT_2, HR_2, Lib.hid f2, Nat.le_refl _⟩
  case round =>
    clear HSP HT_2 HR_2
    obtain ⟨k, n, m, A, B, c, d, z, y, hk, rfl, hnm, HSP, HT, HR, HF, hsz⟩ := hrel
    by_cases hlt : k < nf
    · obtain ⟨bf, of_, rfl, hbf, hcf⟩ := (HIF.out.inB HF.out (fun _ hk => hk.2)).out.at_ (by omega)
      have hf0 := hcf k (by omega)
      have hlt' : (k : Int) < (nf : Int) := by omega
      clear hcf
      generalize fs.getD k 0 = f at hf0
      have hA1 := HSP.out.a
      have hB1 := HSP.out.b
      have q0 : wr.cell? ⟨gS, 0, none⟩ = some (.slice A n c) := HSP.out.s.cell 0
      have q1 : wr.cell? ⟨gS, 1, none⟩ = some (.slice B m d) := HSP.out.s.cell 1
      have lq := HSP.out.s.lt
      have zq0 := HSP.out.s.frozen 0
      have zq1 := HSP.out.s.frozen 1
      have hFB := HF.out
      have hzF := hFB.size
      rcases (by omega : k % 2 = 0 ∨ k % 2 = 1) with hp | hp
      · have e1 : (k : Int) % 2 = 0 := by omega
        have e2 : (k : Int).tmod 2 = 0 := by rw [Int.tmod_eq_emod_of_nonneg (by omega)]; exact e1
        go_wp2_with (at_builtin; refine wpList_append_row2 rfl _ _ 59 rfl 2 (.int .i64 0) 1 8 Tryz.underlying59 info_Int64 (by first | kernel_rfl | simp [Value.cells]) (by decide) v2.heap.size A n c z rfl (hA1.alloc _) ⟨wr.heap.size, 0, none⟩ 1 1 [f] rfl rfl (cell_one_at _ _ _) (by unfold maxLen; omega) (by omega) (by simp; omega) ?_; intro A9 c9 w9 R9 B9 W9 L9; have KS9 : Blk w9 gS 172 #[.slice A n c, .slice B m d] := ((HSP.out.s.alloc _).wroteA W9 (fun a ha => by have := hA1.ge a ha; have := HSP.out.g; omega)); have p0 := KS9.cell 0; have p1 := KS9.cell 1; have lp := KS9.lt; have zp0 := KS9.frozen 0; have zp1 := KS9.frozen 1)
        have F9 : Below w.heap.size w w9 := (hFB.alloc (by omega) _).trans (B9.mono (by omega))
        have z9 := B9.size
        exact ⟨⟨k + 1, n + 1, m, _, _, _, _, _, _, by omega, by go_num, by omega, Lib.hid (HSP.out.left R9 W9 L9), Lib.hid (HT.out.offW hA1 W9 (by omega) (by omega) _ _), Lib.hid (HR.out.offW hA1 W9 (by omega) (by omega) _ _), Lib.hid (F9.setCell (p := ⟨gS, 0, none⟩) (show w.heap.size ≤ gS by omega) _), by simp at z9 ⊢; omega⟩, by simp [intOf]; omega⟩
      · have e1 : (k : Int) % 2 = 1 := by omega
        have e2 : (k : Int).tmod 2 = 1 := by rw [Int.tmod_eq_emod_of_nonneg (by omega)]; exact e1
        go_wp2_with (at_builtin; refine wpList_append_row2 rfl _ _ 59 rfl 2 (.int .i64 0) 1 8 Tryz.underlying59 info_Int64 (by first | kernel_rfl | simp [Value.cells]) (by decide) v2.heap.size B m d y rfl (hB1.alloc _) ⟨wr.heap.size, 0, none⟩ 1 1 [f] rfl rfl (cell_one_at _ _ _) (by unfold maxLen; omega) (by omega) (by simp; omega) ?_; intro A9 c9 w9 R9 B9 W9 L9; have KS9 : Blk w9 gS 172 #[.slice A n c, .slice B m d] := ((HSP.out.s.alloc _).wroteA W9 (fun a ha => by have := hB1.ge a ha; have := HSP.out.g; omega)); have p0 := KS9.cell 0; have p1 := KS9.cell 1; have lp := KS9.lt; have zp0 := KS9.frozen 0; have zp1 := KS9.frozen 1)
        have F9 : Below w.heap.size w w9 := (hFB.alloc (by omega) _).trans (B9.mono (by omega))
        have z9 := B9.size
        exact ⟨⟨k + 1, n, m + 1, _, _, _, _, _, _, by omega, by go_num, by omega, Lib.hid (HSP.out.right R9 W9 L9), Lib.hid (HT.out.offW hB1 W9 (by omega) (by omega) _ _), Lib.hid (HR.out.offW hB1 W9 (by omega) (by omega) _ _), Lib.hid (F9.setCell (p := ⟨gS, 1, none⟩) (show w.heap.size ≤ gS by omega) _), by simp at z9 ⊢; omega⟩, by simp [intOf]; omega⟩
    · have hkn : k = nf := by omega
      subst hkn
      have f3 := HF.out
      have z3 : v2.heap.size ≤ wr.heap.size := hsz
      obtain ⟨v3, hv3⟩ : ∃ x, x = wr := ⟨_, rfl⟩
      rw [← hv3] at HSP HT HR f3 z3 ⊢
      clear hv3 HF hsz
      have HSA3 := Lib.hid ((HSP.out.a.on).map (fun v hv => hv.sl))
      have HSB3 := Lib.hid ((HSP.out.b.on).map (fun v hv => hv.sl))
      have HT_3 := HT
      have HR_3 := HR
      have HSP_3 := HSP
      clear HT HR HSP
      have lt_T := HT_3.out.lt
      obtain ⟨r_T0, r_T1, r_T2, r_T3⟩ := bc4 HT_3.out
      go_wp2_with fail
      refine (disks_any KA WA KB WB 22 ma 22 mb cA dA cB dB v3).mono ?_
      rintro e v4 ⟨rfl, b4⟩
      have HSP_4 := Lib.hid (HSP_3.out.below b4)
      clear HSP_3
      have HSA4 := Lib.hid (HSA3.out.below b4)
      have HSB4 := Lib.hid (HSB3.out.below b4)
      clear HSA3 HSB3
      have f4 := bthen f3 b4
      have z4 := b4.size
      have HT_4 := Lib.hid (HT_3.out.below b4)
      have HR_4 := Lib.hid (HR_3.out.below b4)
      clear lt_T r_T0 r_T1 r_T2 r_T3
      clear HT_3 HR_3
      go_upto_region 10 with fail
      obtain ⟨v5, hv5⟩ : ∃ x : World, x = (v4.alloc (.cells #[.slice KA 22 cA, .slice WA ma dA, .slice KB 22 cB, .slice WB mb dB] 173)) := ⟨_, rfl⟩
      rw [← hv5]
      have f5 : Below w.heap.size w v5 := by rw [hv5]; (repeat' (first | (with_reducible exact Below.refl _ _) | (with_reducible assumption) | (with_reducible refine Below.alloc ?_ ?_ _) | (with_reducible refine Below.drew ?_) | (with_reducible refine Below.setCell ?_ ?_ _) | (with_reducible refine bstep (by assumption) ?_ ?_) | (with_reducible exact Nat.le_refl _) | omega | (simp [*]; done) | (simp [*]; omega)))
      have z5 : v4.heap.size + 1 ≤ v5.heap.size := by rw [hv5]; simp [size_set]
      have HT_5 : Hid (Blk v5 gT 42 #[.slice KA 22 cA, .slice WA ma dA, .slice KB 22 cB, .slice WB mb dB]) := by rw [hv5]; exact Lib.hid ((HT_4.out).alloc _)
      have HR_5 : Hid (Blk v5 gR 42 #[.slice none 0 0, .slice none 0 0, .slice none 0 0, .slice none 0 0]) := by rw [hv5]; exact Lib.hid ((HR_4.out).alloc _)
      have HU_5 : Hid (Blk v5 v4.heap.size 173 #[.slice KA 22 cA, .slice WA ma dA, .slice KB 22 cB, .slice WB mb dB]) := by rw [hv5]; exact Lib.hid ((Blk.new_at _ _ _ _ (by simp [size_set])))
      have HSP_5 : Hid (Sp v5 v2.heap.size gS 172 2 A n c z B m d y) := by rw [hv5]; exact Lib.hid (HSP_4.out.below ((Below.refl _ _).alloc (Nat.le_refl _) _))
      have HSA : Hid (On (Rg v2.heap.size v3.heap.size) (fun x => Sl x 1 A n z) v5) := by rw [hv5]; exact Lib.hid (HSA4.out.alloc _)
      have HSB : Hid (On (Rg v2.heap.size v3.heap.size) (fun x => Sl x 1 B m y) v5) := by rw [hv5]; exact Lib.hid (HSB4.out.alloc _)
      clear HSA4 HSB4
      clear hv5 HT_4 HR_4
      obtain ⟨gU, hgU⟩ : ∃ q, q = v4.heap.size := ⟨_, rfl⟩
      rw [← hgU] at HU_5
      try rw [← hgU]
      have lgU : v4.heap.size ≤ gU := by omega
      have mgU : gU < v5.heap.size := by omega
      have ngU : ∀ k, v4.heap.size ≤ k → k ≠ gU → True := fun _ _ _ => trivial
      clear ngU
      clear hgU
      clear HSP_4
      have lt_U := HU_5.out.lt
      obtain ⟨r_U0, r_U1, r_U2, r_U3⟩ := bc4 HU_5.out
      go_wp2_with fail
      clear lt_U r_U0 r_U1 r_U2 r_U3
      go_loopw [37] (fun iv wr => (iv = .int .i64 0 ∧ v5 = wr) ∨ (iv = .int .i64 1 ∧ ∃ K1 c1 W1 d1 T ra', FallW ra wa ra' ∧ Hid (Blk wr gU 173 #[.slice K1 22 c1, .slice W1 0 d1, .slice KB 22 cB, .slice WB mb dB]) ∧ Hid (Blk wr gR 42 #[.slice none 0 0, .slice none 0 0, .slice none 0 0, .slice none 0 0]) ∧ Hid (On T (fun x => Dk x K1 22 W1 0 ra' []) wr) ∧ Hid (Sane w wr T gU gR) ∧ Hid (Blk wr gS 172 #[.slice A n c, .slice B m d]) ∧ Hid (On (Rg v2.heap.size v3.heap.size) (fun x => Sl x 1 B m y) wr) ∧ Hid (Below w.heap.size w wr) ∧ v5.heap.size ≤ wr.heap.size) ∨
            (iv = .int .i64 2 ∧ ∃ K1 c1 W1 d1 K2 c2 W2 d2 T ra' rb', FallW ra wa ra' ∧ FallW rb wb rb' ∧ Hid (Blk wr gU 173 #[.slice K1 22 c1, .slice W1 0 d1, .slice K2 22 c2, .slice W2 0 d2]) ∧ Hid (Blk wr gR 42 #[.slice none 0 0, .slice none 0 0, .slice none 0 0, .slice none 0 0]) ∧ Hid (On T (fun x => Dk x K1 22 W1 0 ra' [] ∧ Dk x K2 22 W2 0 rb' []) wr) ∧ Hid (Sane w wr T gU gR) ∧ Hid (Below w.heap.size w wr) ∧ v5.heap.size ≤ wr.heap.size)) (fun iv _ => 2 - (intOf iv).toNat)
      case atStart => exact .inl ⟨rfl, rfl⟩
      case round =>
        rcases hrel with ⟨rfl, rfl⟩ | ⟨rfl, K1, c1, W1, d1, T, ra2, hfa, HU, HR, HO, HS, HSB, HSL, HF, hsz⟩ | ⟨rfl, K1, c1, W1, d1, K2, c2, W2, d2, T, ra2, rb2, hfa, hfb, HU, HR, HO, HS, HF, hsz⟩
        · have HS_5 := Lib.hid HSP_5.out.s
          have HSA_5 : Hid (On (Rg v2.heap.size v3.heap.size) (fun x => Sl x 1 A n z) v5) := HSA
          have HSB_5 : Hid (On (Rg v2.heap.size v3.heap.size) (fun x => Sl x 1 B m y) v5) := HSB
          have hidx := fun W : World => idx2_0 (.slice KA 22 cA) (.slice WA ma dA) (.slice KB 22 cB) (.slice WB mb dB) W
          go_upto_region 13 with fail
          obtain ⟨v6, hv6⟩ : ∃ x : World, x = (v5.alloc (.cells #[.slice KA 22 cA, .slice WA ma dA] 40)) := ⟨_, rfl⟩
          rw [← hv6]
          have f6 : Below w.heap.size w v6 := by rw [hv6]; (repeat' (first | (with_reducible exact Below.refl _ _) | (with_reducible assumption) | (with_reducible refine Below.alloc ?_ ?_ _) | (with_reducible refine Below.drew ?_) | (with_reducible refine Below.setCell ?_ ?_ _) | (with_reducible refine bstep (by assumption) ?_ ?_) | (with_reducible exact Nat.le_refl _) | omega | (simp [*]; done) | (simp [*]; omega)))
          have z6 : v5.heap.size + 1 ≤ v6.heap.size := by rw [hv6]; simp [size_set]
          have HT_6 : Hid (Blk v6 gT 42 #[.slice KA 22 cA, .slice WA ma dA, .slice KB 22 cB, .slice WB mb dB]) := by rw [hv6]; exact Lib.hid ((HT_5.out).alloc _)
          have HR_6 : Hid (Blk v6 gR 42 #[.slice none 0 0, .slice none 0 0, .slice none 0 0, .slice none 0 0]) := by rw [hv6]; exact Lib.hid ((HR_5.out).alloc _)
          have HU_6 : Hid (Blk v6 gU 173 #[.slice KA 22 cA, .slice WA ma dA, .slice KB 22 cB, .slice WB mb dB]) := by rw [hv6]; exact Lib.hid ((HU_5.out).alloc _)
          have HS_6 : Hid (Blk v6 gS 172 #[.slice A n c, .slice B m d]) := by rw [hv6]; exact Lib.hid ((HS_5.out).alloc _)
          have HSA_6 : Hid (On (Rg v2.heap.size v3.heap.size) (fun x => Sl x 1 A n z) v6) := by rw [hv6]; exact Lib.hid ((HSA_5.out).alloc _)
          have HSB_6 : Hid (On (Rg v2.heap.size v3.heap.size) (fun x => Sl x 1 B m y) v6) := by rw [hv6]; exact Lib.hid ((HSB_5.out).alloc _)
          have HD_6 : Hid (Blk v6 v5.heap.size 40 #[.slice KA 22 cA, .slice WA ma dA]) := by rw [hv6]; exact Lib.hid ((Blk.new_at _ _ _ _ (by simp [size_set])))
          clear hv6 HT_5 HR_5 HU_5 HS_5 HSA_5 HSB_5
          obtain ⟨gD, hgD⟩ : ∃ q, q = v5.heap.size := ⟨_, rfl⟩
          rw [← hgD] at HD_6
          try rw [← hgD]
          have lgD : v5.heap.size ≤ gD := by omega
          have mgD : gD < v6.heap.size := by omega
          have ngD : ∀ k, v5.heap.size ≤ k → k ≠ gD → True := fun _ _ _ => trivial
          clear ngD
          clear hgD
          clear hidx
          have lt_D := HD_6.out.lt
          have r_D0 : v6.cell? ⟨gD, 0, none⟩ = some (.slice KA 22 cA) := HD_6.out.cell 0
          have r_D1 : v6.cell? ⟨gD, 1, none⟩ = some (.slice WA ma dA) := HD_6.out.cell 1
          have lt_S := HS_6.out.lt
          have r_S0 : v6.cell? ⟨gS, 0, none⟩ = some (.slice A n c) := HS_6.out.cell 0
          have r_S1 : v6.cell? ⟨gS, 1, none⟩ = some (.slice B m d) := HS_6.out.cell 1
          have lt_U := HU_6.out.lt
          obtain ⟨r_U0, r_U1, r_U2, r_U3⟩ := bc4 HU_6.out
          have z_U0 := HU_6.out.frozen 0
          have z_U1 := HU_6.out.frozen 1
          have hS0 : v6.drew.cell? ⟨gD, 0, none⟩ = some (.slice KA 22 cA) ∧ v6.drew.cell? ⟨gD, 1, none⟩ = some (.slice WA ma dA) ∧ v6.drew.cell? ⟨gS, 0, none⟩ = some (.slice A n c) := ⟨HD_6.out.cell 0, HD_6.out.cell 1, HS_6.out.cell 0⟩
          have hcc := fallen_any KA WA A 22 cA dA ma n c ra wa z v6.drew ((On.below_of (fun _ hb => (((HIA.out).inB f6 (fun _ hk => hk.2)).out).below hb)).drew).out ha (Sl.drew HSA_6.out.out) HZA.out
          have ngDU : gD ≠ gU := by omega
          have ngSU : gS ≠ gU := by omega
          go_region_held_law (fun w' => w'.cell? ⟨gD, 0, none⟩ = some (.slice KA 22 cA) ∧ w'.cell? ⟨gD, 1, none⟩ = some (.slice WA ma dA) ∧ w'.cell? ⟨gS, 0, none⟩ = some (.slice A n c)) (first | with_reducible assumption | with_reducible exact hS0 | with_reducible exact sp3c hS1 ngDU ngSU) ((go_at_call 90; (with_reducible refine hcc.mono ?_); clear hcc; rintro e v7 ⟨rx, hfx, K1', c1', W1', d1', rfl, hO, b7⟩; have E7 : Below v6.heap.size v6 v7 := tb_dr1 b7; have KD9 := HD_6.out.below E7; have KS9 := HS_6.out.below E7; have KU9 := HU_6.out.below E7; have hS1 : v7.cell? ⟨gD, 0, none⟩ = some (.slice KA 22 cA) ∧ v7.cell? ⟨gD, 1, none⟩ = some (.slice WA ma dA) ∧ v7.cell? ⟨gS, 0, none⟩ = some (.slice A n c) := ⟨KD9.cell 0, KD9.cell 1, KS9.cell 0⟩; have x0 := KU9.cell 0; have x1 := KU9.cell 1; have y0 := KU9.frozen 0; have y1 := KU9.frozen 1; have yl := KU9.lt))
          have HOn : Hid (On (Rg v6.heap.size v7.heap.size) (fun x => Dk x K1' 22 W1' 0 rx []) v7) := Lib.hid hO
          rename_i hHx
          clear hHx hS1 hS0 KD9 KS9 KU9 hO
          have f7 := bthen f6 E7
          have z7 := E7.size
          have HT_7 := Lib.hid (HT_6.out.below E7)
          have HR_7 := Lib.hid (HR_6.out.below E7)
          have HU_7 := Lib.hid (HU_6.out.below E7)
          have HS_7 := Lib.hid (HS_6.out.below E7)
          have HSA_7 := Lib.hid (HSA_6.out.below E7)
          have HSB_7 := Lib.hid (HSB_6.out.below E7)
          have HD_7 := Lib.hid (HD_6.out.below E7)
          clear HT_6 HR_6 HU_6 HS_6 HSA_6 HSB_6 HD_6
          go_wp2_with fail
          exact ⟨.inr (.inl ⟨rfl, K1', c1', W1', d1', Rg v6.heap.size v7.heap.size, rx, hfx, Lib.hid (((HU_7.out).set_ 0 _).set_ 1 _), Lib.hid (((HR_7.out).far (p := ⟨gU, 0, none⟩) (show gR ≠ gU by omega) _).far (p := ⟨gU, 1, none⟩) (show gR ≠ gU by omega) _), Lib.hid ((HOn.out.far (g := gU) (Rg.no (by omega)) 0 _).far (g := gU) (Rg.no (by omega)) 1 _), Lib.hid (Sane.rg (by omega) (by simp [size_set]) (by omega) (by omega)), Lib.hid (((HS_7.out).far (p := ⟨gU, 0, none⟩) (show gS ≠ gU by omega) _).far (p := ⟨gU, 1, none⟩) (show gS ≠ gU by omega) _), Lib.hid (((HSB_7.out).far (g := gU) (Rg.no (by omega)) 0 _).far (g := gU) (Rg.no (by omega)) 1 _), Lib.hid (((f7).setCell (p := ⟨gU, 0, none⟩) (show w.heap.size ≤ gU by omega) _).setCell (p := ⟨gU, 1, none⟩) (show w.heap.size ≤ gU by omega) _), by simp only [size_set]; omega⟩), by simp [intOf]⟩
        · have f6 := HF.out
          have z6 : v5.heap.size ≤ wr.heap.size := hsz
          obtain ⟨v6, hv6⟩ : ∃ x, x = wr := ⟨_, rfl⟩
          rw [← hv6] at HU HR HO HS HSB HSL f6 z6 ⊢
          clear hv6 HF hsz HSP_5
          have HU_6 := HU
          have HR_6 := HR
          have HS_6 := HSB
          have HN_6 : Hid (On T (fun x => Dk x K1 22 W1 0 ra2 []) v6) := HO
          have HSB_6 : Hid (On (Rg v2.heap.size v3.heap.size) (fun x => Sl x 1 B m y) v6) := HSL
          have HSN := HS
          clear HU HR HO HSB HSL HS
          have hidx := fun W : World => idx2_1 (.slice KA 22 cA) (.slice WA ma dA) (.slice KB 22 cB) (.slice WB mb dB) W
          have lt_U := HU_6.out.lt
          obtain ⟨r_U0, r_U1, r_U2, r_U3⟩ := bc4 HU_6.out
          go_upto_region 13 with fail
          obtain ⟨v7, hv7⟩ : ∃ x : World, x = (v6.alloc (.cells #[.slice KB 22 cB, .slice WB mb dB] 40)) := ⟨_, rfl⟩
          rw [← hv7]
          have f7 : Below w.heap.size w v7 := by rw [hv7]; (repeat' (first | (with_reducible exact Below.refl _ _) | (with_reducible assumption) | (with_reducible refine Below.alloc ?_ ?_ _) | (with_reducible refine Below.drew ?_) | (with_reducible refine Below.setCell ?_ ?_ _) | (with_reducible refine bstep (by assumption) ?_ ?_) | (with_reducible exact Nat.le_refl _) | omega | (simp [*]; done) | (simp [*]; omega)))
          have z7 : v6.heap.size + 1 ≤ v7.heap.size := by rw [hv7]; simp [size_set]
          have HU_7 : Hid (Blk v7 gU 173 #[.slice K1 22 c1, .slice W1 0 d1, .slice KB 22 cB, .slice WB mb dB]) := by rw [hv7]; exact Lib.hid ((HU_6.out).alloc _)
          have HR_7 : Hid (Blk v7 gR 42 #[.slice none 0 0, .slice none 0 0, .slice none 0 0, .slice none 0 0]) := by rw [hv7]; exact Lib.hid ((HR_6.out).alloc _)
          have HS_7 : Hid (Blk v7 gS 172 #[.slice A n c, .slice B m d]) := by rw [hv7]; exact Lib.hid ((HS_6.out).alloc _)
          have HN_7 : Hid (On T (fun x => Dk x K1 22 W1 0 ra2 []) v7) := by rw [hv7]; exact Lib.hid ((HN_6.out).alloc _)
          have HSB_7 : Hid (On (Rg v2.heap.size v3.heap.size) (fun x => Sl x 1 B m y) v7) := by rw [hv7]; exact Lib.hid ((HSB_6.out).alloc _)
          have HD_7 : Hid (Blk v7 v6.heap.size 40 #[.slice KB 22 cB, .slice WB mb dB]) := by rw [hv7]; exact Lib.hid ((Blk.new_at _ _ _ _ (by simp [size_set])))
          clear lt_U r_U0 r_U1 r_U2 r_U3
          clear hv7 HU_6 HR_6 HS_6 HN_6 HSB_6
          obtain ⟨gD, hgD⟩ : ∃ q, q = v6.heap.size := ⟨_, rfl⟩
          rw [← hgD] at HD_7
          try rw [← hgD]
          have lgD : v6.heap.size ≤ gD := by omega
          have mgD : gD < v7.heap.size := by omega
          have ngD : ∀ k, v6.heap.size ≤ k → k ≠ gD → True := fun _ _ _ => trivial
          clear ngD
          clear hgD
          clear hidx
          have lt_D := HD_7.out.lt
          have r_D0 : v7.cell? ⟨gD, 0, none⟩ = some (.slice KB 22 cB) := HD_7.out.cell 0
          have r_D1 : v7.cell? ⟨gD, 1, none⟩ = some (.slice WB mb dB) := HD_7.out.cell 1
          have lt_S := HS_7.out.lt
          have r_S0 : v7.cell? ⟨gS, 0, none⟩ = some (.slice A n c) := HS_7.out.cell 0
          have r_S1 : v7.cell? ⟨gS, 1, none⟩ = some (.slice B m d) := HS_7.out.cell 1
          have lt_U := HU_7.out.lt
          obtain ⟨r_U0, r_U1, r_U2, r_U3⟩ := bc4 HU_7.out
          have z_U2 := HU_7.out.frozen 2
          have z_U3 := HU_7.out.frozen 3
          have hS0 : v7.drew.cell? ⟨gD, 0, none⟩ = some (.slice KB 22 cB) ∧ v7.drew.cell? ⟨gD, 1, none⟩ = some (.slice WB mb dB) ∧ v7.drew.cell? ⟨gS, 1, none⟩ = some (.slice B m d) := ⟨HD_7.out.cell 0, HD_7.out.cell 1, HS_7.out.cell 1⟩
          have hcc := fallen_any KB WB B 22 cB dB mb m d rb wb y v7.drew ((On.below_of (fun _ hb => (((HIB.out).inB f7 (fun _ hk => hk.2)).out).below hb)).drew).out hb (Sl.drew HSB_7.out.out) HZB.out
          have ngDU : gD ≠ gU := by omega
          have ngSU : gS ≠ gU := by omega
          go_region_held_law (fun w' => w'.cell? ⟨gD, 0, none⟩ = some (.slice KB 22 cB) ∧ w'.cell? ⟨gD, 1, none⟩ = some (.slice WB mb dB) ∧ w'.cell? ⟨gS, 1, none⟩ = some (.slice B m d)) (first | with_reducible assumption | with_reducible exact hS0 | with_reducible exact sp3c hS1 ngDU ngSU) ((go_at_call 90; (with_reducible refine hcc.mono ?_); clear hcc; rintro e v8 ⟨rx, hfx, K1', c1', W1', d1', rfl, hO, b8⟩; have E8 : Below v7.heap.size v7 v8 := tb_dr1 b8; have KD9 := HD_7.out.below E8; have KS9 := HS_7.out.below E8; have KU9 := HU_7.out.below E8; have hS1 : v8.cell? ⟨gD, 0, none⟩ = some (.slice KB 22 cB) ∧ v8.cell? ⟨gD, 1, none⟩ = some (.slice WB mb dB) ∧ v8.cell? ⟨gS, 1, none⟩ = some (.slice B m d) := ⟨KD9.cell 0, KD9.cell 1, KS9.cell 1⟩; have x0 := KU9.cell 2; have x1 := KU9.cell 3; have y0 := KU9.frozen 2; have y1 := KU9.frozen 3; have yl := KU9.lt))
          have HOn : Hid (On (Rg v7.heap.size v8.heap.size) (fun x => Dk x K1' 22 W1' 0 rx []) v8) := Lib.hid hO
          rename_i hHx
          clear hHx hS1 hS0 KD9 KS9 KU9 hO
          have f8 := bthen f7 E8
          have z8 := E8.size
          have HU_8 := Lib.hid (HU_7.out.below E8)
          have HR_8 := Lib.hid (HR_7.out.below E8)
          have HS_8 := Lib.hid (HS_7.out.below E8)
          have HN_8 := Lib.hid (HN_7.out.below E8)
          have HSB_8 := Lib.hid (HSB_7.out.below E8)
          have HD_8 := Lib.hid (HD_7.out.below E8)
          clear HU_7 HR_7 HS_7 HN_7 HSB_7 HD_7
          go_wp2_with fail
          exact ⟨.inr (.inr ⟨rfl, K1, c1, W1, d1, K1', c1', W1', d1', _, ra2, rx, hfa, hfx, Lib.hid (((HU_8.out).set_ 2 _).set_ 3 _), Lib.hid (((HR_8.out).far (p := ⟨gU, 2, none⟩) (show gR ≠ gU by omega) _).far (p := ⟨gU, 3, none⟩) (show gR ≠ gU by omega) _), Lib.hid ((((HN_8.out).far (g := gU) HSN.out.a 2 _).far (g := gU) HSN.out.a 3 _).or ((HOn.out.far (g := gU) (Rg.no (by omega)) 2 _).far (g := gU) (Rg.no (by omega)) 3 _)), Lib.hid ((HSN.out.mono (by simp only [size_set]; omega)).or (Sane.rg (by omega) (by simp [size_set]) (by omega) (by omega))), Lib.hid (((f8).setCell (p := ⟨gU, 2, none⟩) (show w.heap.size ≤ gU by omega) _).setCell (p := ⟨gU, 3, none⟩) (show w.heap.size ≤ gU by omega) _), by simp only [size_set]; omega⟩), by simp [intOf]⟩
        · have f6 := HF.out
          have z6 : v5.heap.size ≤ wr.heap.size := hsz
          obtain ⟨v6, hv6⟩ : ∃ x, x = wr := ⟨_, rfl⟩
          rw [← hv6] at HU HR HO HS f6 z6 ⊢
          clear hv6 HF hsz HSP_5
          have HU_6 := HU
          have HR_6 := HR
          clear HU HR
          have lt_U := HU_6.out.lt
          obtain ⟨r_U0, r_U1, r_U2, r_U3⟩ := bc4 HU_6.out
          go_wp2_with fail
          refine (twoOf_any K1 W1 K2 W2 22 0 22 0 c1 d1 c2 d2 v6).mono ?_
          rintro e v7 ⟨rfl, b7⟩
          have HO7 := Lib.hid (HO.out.below b7)
          have f7 := bthen f6 b7
          have z7 := b7.size
          have HU_7 := Lib.hid (HU_6.out.below b7)
          have HR_7 := Lib.hid (HR_6.out.below b7)
          clear lt_U r_U0 r_U1 r_U2 r_U3
          clear HU_6 HR_6
          have lt_R := HR_7.out.lt
          obtain ⟨r_R0, r_R1, r_R2, r_R3⟩ := bc4 HR_7.out
          obtain ⟨z_R0, z_R1, z_R2, z_R3⟩ := bf4 HR_7.out
          go_wp21
          refine bodyPost_ret (v := .agg #[.slice K1 22 c1, .slice W1 0 d1, .slice K2 22 c2, .slice W2 0 d2]) (by simp [results, Tryz.results39, go_sem, *]) rfl ?_
          exact ⟨ra2, rb2, hfa, hfb, K1, c1, W1, d1, K2, c2, W2, d2, rfl, (((((HO7.out.far HS.out.b 0 _).far HS.out.b 1 _).far HS.out.b 2 _).far HS.out.b 3 _).sub (fun k hk => ⟨(HS.out.r k hk).1, by have := (HS.out.r k hk).2; simp only [size_set]; omega⟩)), ((((f7).setCell (p := ⟨gR, 0, none⟩) (show w.heap.size ≤ gR by omega) _).setCell (p := ⟨gR, 1, none⟩) (show w.heap.size ≤ gR by omega) _).setCell (p := ⟨gR, 2, none⟩) (show w.heap.size ≤ gR by omega) _).setCell (p := ⟨gR, 3, none⟩) (show w.heap.size ≤ gR by omega) _⟩
end Go.Proofs.YtbheflinchabgaaGreatDoor
namespace Go.Proofs.YtbheflinchabgaaGreatDoor
set_option linter.unusedSimpArgs false
set_option linter.unusedVariables false
attribute [local go_sem] n_lt2 n_lt3 n_lt4 n_le2 n_le3
open Go.RowKit
attribute [local go_sem] Ext.cell Ext.frozen
/-- What a crash leaves: fs are the entries that are read again. -/
structure FallP (ra rb : List (List Int)) (z : List Int) (fs : List En) : Prop where
  r : ReadP ra rb fs
  a0 : ra.getD 0 [] = withL headL
  b0 : rb.getD 0 [] = withL headL
  a1 : ra.getD 1 [] = z
  b1 : rb.getD 1 [] = z
  z : blankL z
def RetFallen (w : World) (es : List En) (D : Nat) (z : List Int) (e : Ending) (w' : World) : Prop := ∃ KA cA WA dA KB cB WB dB ra rb fs, e = .returned (.agg #[.slice KA 22 cA, .slice WA 0 dA, .slice KB 22 cB, .slice WB 0 dB, .int .i64 0, .int .i64 0, .int .i64 0, .slice none 0 0, .int .i64 0, .int .i64 0, .int .i64 0, .slice none 0 0, .bool false, .int .i64 0, .int .i64 0, .slice none 0 0, .slice none 0 0, .int .i64 0, .slice none 0 0]) ∧
  On (Rg w.heap.size w'.heap.size) (fun x => Dk x KA 22 WA 0 ra [] ∧ Dk x KB 22 WB 0 rb []) w' ∧ (fs = es ∨ fs = es.take D) ∧ FallP ra rb z fs ∧ Below w.heap.size w w'
set_option maxRecDepth 100000 in
set_option maxHeartbeats 8000000 in
theorem fallenLog_yes (KA : Option Addr) (cA : Nat) (WA : Option Addr) (dA : Nat) (KB : Option Addr) (cB : Nat) (WB : Option Addr) (dB : Nat) (H : Option Addr) (hc : Nat) (X : Option Addr) (xc : Nat) (L : Option Addr) (lc : Nat) (S : Option Addr) (sc : Nat) (O : Option Addr) (oc : Nat) (m n ns no D : Nat) (es : List En) (z : List Int) (F : Option Addr) (cf : Nat) (zs : List Int) (w : World) (hG : LgW w KA WA KB WB L S O lc m n ns no es D z) (hF : Sl w 1 F 6 zs) : Calls Tryz.prog 13 #[.agg #[.slice KA 22 cA, .slice WA m dA, .slice KB 22 cB, .slice WB m dB, .int .i64 0, .int .i64 0, .int .i64 0, .slice H 0 hc, .int .i64 0, .int .i64 0, .int .i64 0, .slice X 0 xc, .bool false, .int .i64 0, .int .i64 0, .slice L n lc, .slice S ns sc, .int .i64 (D : Nat), .slice O no oc], .slice F 6 cf] w (RetFallen w es D z) := by
  have HPL := Lib.hid (And.intro hG.p (And.intro hG.z (And.intro hG.d1 hG.d2)))
  have hm1 : m ≤ 1 := by rw [hG.hm]; exact waitN_le es D
  have HIG : Hid (On (Rg 0 w.heap.size) (fun x => LgW x KA WA KB WB L S O lc m n ns no es D z) w) := Lib.hid (On.below_of (fun _ hb => (hG).below hb))
  clear hG
  have HIF : Hid (On (Rg 0 w.heap.size) (fun x => Sl x 1 F 6 zs) w) := Lib.hid (On.below_of (fun _ hb => (hF).below hb))
  clear hF
  go_enter Tryz.func13, Tryz.ntmps13
  go_upto_region 1 with fail
  obtain ⟨v0, hv0⟩ : ∃ x : World, x = ((w.alloc (.cells #[.slice KA 22 cA, .slice WA m dA, .slice KB 22 cB, .slice WB m dB, .int .i64 0, .int .i64 0, .int .i64 0, .slice H 0 hc, .int .i64 0, .int .i64 0, .int .i64 0, .slice X 0 xc, .bool false, .int .i64 0, .int .i64 0, .slice L n lc, .slice S ns sc, .int .i64 (D : Nat), .slice O no oc] 51)).alloc (.cells #[.slice none 0 0, .slice none 0 0, .slice none 0 0, .slice none 0 0, .int .i64 0, .int .i64 0, .int .i64 0, .slice none 0 0, .int .i64 0, .int .i64 0, .int .i64 0, .slice none 0 0, .bool false, .int .i64 0, .int .i64 0, .slice none 0 0, .slice none 0 0, .int .i64 0, .slice none 0 0] 51)) := ⟨_, rfl⟩
  rw [← hv0]
  have f0 : Below w.heap.size w v0 := by rw [hv0]; (repeat' (first | (with_reducible exact Below.refl _ _) | (with_reducible assumption) | (with_reducible refine Below.alloc ?_ ?_ _) | (with_reducible refine Below.drew ?_) | (with_reducible refine Below.setCell ?_ ?_ _) | (with_reducible refine bstep (by assumption) ?_ ?_) | (with_reducible exact Nat.le_refl _) | omega | (simp [*]; done) | (simp [*]; omega)))
  have z0 : w.heap.size + 2 ≤ v0.heap.size := by rw [hv0]; simp [size_set]
  have HN_0 : Hid (Blk v0 w.heap.size 51 #[.slice KA 22 cA, .slice WA m dA, .slice KB 22 cB, .slice WB m dB, .int .i64 0, .int .i64 0, .int .i64 0, .slice H 0 hc, .int .i64 0, .int .i64 0, .int .i64 0, .slice X 0 xc, .bool false, .int .i64 0, .int .i64 0, .slice L n lc, .slice S ns sc, .int .i64 (D : Nat), .slice O no oc]) := by rw [hv0]; exact Lib.hid (((Blk.new_at _ _ _ _ (by simp [size_set]))).alloc _)
  have HR_0 : Hid (Blk v0 (w.heap.size + 1) 51 #[.slice none 0 0, .slice none 0 0, .slice none 0 0, .slice none 0 0, .int .i64 0, .int .i64 0, .int .i64 0, .slice none 0 0, .int .i64 0, .int .i64 0, .int .i64 0, .slice none 0 0, .bool false, .int .i64 0, .int .i64 0, .slice none 0 0, .slice none 0 0, .int .i64 0, .slice none 0 0]) := by rw [hv0]; exact Lib.hid ((Blk.new_at _ _ _ _ (by simp [size_set])))
  clear hv0
  obtain ⟨gR, hgR⟩ : ∃ q, q = w.heap.size + 1 := ⟨_, rfl⟩
  rw [← hgR] at HR_0
  try rw [← hgR]
  have lgR : w.heap.size ≤ gR := by omega
  have mgR : gR < v0.heap.size := by omega
  have ngR : ∀ k, w.heap.size ≤ k → k ≠ gR → True := fun _ _ _ => trivial
  clear ngR
  obtain ⟨gN, hgN⟩ : ∃ q, q = w.heap.size := ⟨_, rfl⟩
  rw [← hgN] at HN_0
  try rw [← hgN]
  have lgN : w.heap.size ≤ gN := by omega
  have mgN : gN < v0.heap.size := by omega
  have ngN : ∀ k, w.heap.size ≤ k → k ≠ gN → True := fun _ _ _ => trivial
  clear ngN
  have nnNR : gN < gR := by omega
  clear hgN
  clear hgR
  go_wp2_with (show wpList _ _ _ (Oper.mk _ (Op.load 51 _) _ _ _ _ :: _) _ _; refine wpList_load_row rfl 51 _ rfl gN rfl 51 #[.slice KA 22 cA, .slice WA m dA, .slice KB 22 cB, .slice WB m dB, .int .i64 0, .int .i64 0, .int .i64 0, .slice H 0 hc, .int .i64 0, .int .i64 0, .int .i64 0, .slice X 0 xc, .bool false, .int .i64 0, .int .i64 0, .slice L n lc, .slice S ns sc, .int .i64 (D : Nat), .slice O no oc] (0, 0) _ HN_0.out Tryz.underlying51 rfl (by kernel_rfl) ?_)
  refine (logOk_yes KA cA WA dA KB cB WB dB H hc X xc L lc S sc O oc m n ns no D es z v0 ((HIG.out).inB f0 (fun _ hk => hk.2)).out).mono ?_
  rintro e v1 ⟨rfl, b1⟩
  have f1 := bthen f0 b1
  have z1 := b1.size
  have HN_1 := Lib.hid (HN_0.out.below b1)
  have HR_1 := Lib.hid (HR_0.out.below b1)
  clear HN_0 HR_0
  have lt_N := HN_1.out.lt
  obtain ⟨r_N0, r_N1, r_N2, r_N3, r_N4, r_N5, r_N6, r_N7, r_N8, r_N9, r_N10, r_N11, r_N12, r_N13, r_N14, r_N15, r_N16, r_N17, r_N18⟩ := bc19 HN_1.out
  go_wp2_with fail
  refine (bothFallen_any KA WA KB WB F cA dA cB dB m m 6 cf (diskL z (es.take D)) (diskL z (es.take D)) (waitD es D) (waitD es D) zs v1 ((HIG.out).inB f1 (fun _ hk => hk.2)).out.a ((HIG.out).inB f1 (fun _ hk => hk.2)).out.b hm1 hm1 ((HIF.out).inB f1 (fun _ hk => hk.2)).out (by decide) (wait_fits HPL.out.2.1 HPL.out.1 HPL.out.2.2.1) (wait_fits HPL.out.2.1 HPL.out.1 HPL.out.2.2.1)).mono ?_
  rintro e v2 ⟨ra, rb, fa, fb, KA', cA', WA', dA', KB', cB', WB', dB', rfl, hO, b2⟩
  have f2 := bthen f1 b2
  have z2 := b2.size
  have HN_2 := Lib.hid (HN_1.out.below b2)
  have HR_2 := Lib.hid (HR_1.out.below b2)
  clear lt_N r_N0 r_N1 r_N2 r_N3 r_N4 r_N5 r_N6 r_N7 r_N8 r_N9 r_N10 r_N11 r_N12 r_N13 r_N14 r_N15 r_N16 r_N17 r_N18
  clear HN_1 HR_1
  have HT_2 := Lib.hid (show On (Rg v1.heap.size v2.heap.size) (fun x => Dk x KA' 22 WA' 0 ra [] ∧ Dk x KB' 22 WB' 0 rb []) v2 from hO)
  clear hO
  go_wp2_with (show wpList _ _ _ (Oper.mk _ (Op.store _ _ _) _ _ _ _ :: _) _ _; refine wpList_store_row rfl 51 _ _ rfl gR #[.slice KA' 22 cA', .slice WA' 0 dA', .slice KB' 22 cB', .slice WB' 0 dB', .int .i64 0, .int .i64 0, .int .i64 0, .slice none 0 0, .int .i64 0, .int .i64 0, .int .i64 0, .slice none 0 0, .bool false, .int .i64 0, .int .i64 0, .slice none 0 0, .slice none 0 0, .int .i64 0, .slice none 0 0] rfl rfl 51 #[.slice none 0 0, .slice none 0 0, .slice none 0 0, .slice none 0 0, .int .i64 0, .int .i64 0, .int .i64 0, .slice none 0 0, .int .i64 0, .int .i64 0, .int .i64 0, .slice none 0 0, .bool false, .int .i64 0, .int .i64 0, .slice none 0 0, .slice none 0 0, .int .i64 0, .slice none 0 0] HR_2.out (by kernel_rfl) rfl (by simp [Value.oneCell']) ?_)
  go_wp21
  refine bodyPost_ret (v := .agg #[.slice KA' 22 cA', .slice WA' 0 dA', .slice KB' 22 cB', .slice WB' 0 dB', .int .i64 0, .int .i64 0, .int .i64 0, .slice none 0 0, .int .i64 0, .int .i64 0, .int .i64 0, .slice none 0 0, .bool false, .int .i64 0, .int .i64 0, .slice none 0 0, .slice none 0 0, .int .i64 0, .slice none 0 0]) (results_cell_row rfl _ _ gR 51 #[.slice KA' 22 cA', .slice WA' 0 dA', .slice KB' 22 cB', .slice WB' 0 dB', .int .i64 0, .int .i64 0, .int .i64 0, .slice none 0 0, .int .i64 0, .int .i64 0, .int .i64 0, .slice none 0 0, .bool false, .int .i64 0, .int .i64 0, .slice none 0 0, .slice none 0 0, .int .i64 0, .slice none 0 0] (0, 0) _ rfl (HR_2.out.setRow _) Tryz.underlying51 rfl (by kernel_rfl)) rfl ?_
  obtain ⟨fs, hfs, hR, h0, h1, h2, h3⟩ := readP_fall HPL.out.2.1 HPL.out.1 HPL.out.2.2.1 HPL.out.2.2.2 fa fb
  exact ⟨KA', cA', WA', dA', KB', cB', WB', dB', ra, rb, fs, rfl, ((HT_2.out).rowFar (g := gR) (Rg.no (by omega)) _).sub (Rg.sub (by omega) (by rw [setRow_size]; omega)), hfs, ⟨hR, h0, h1, h2, h3, HPL.out.2.1⟩, Below.rowFar (f2) (g := gR) (show w.heap.size ≤ gR by omega) _⟩
set_option maxRecDepth 100000 in
set_option maxHeartbeats 8000000 in
theorem risenLog_yes (KA : Option Addr) (cA : Nat) (WA : Option Addr) (dA : Nat) (KB : Option Addr) (cB : Nat) (WB : Option Addr) (dB : Nat) (ra rb : List (List Int)) (z : List Int) (fs : List En) (w : World) (hA : Dk w KA 22 WA 0 ra []) (hB : Dk w KB 22 WB 0 rb []) (hP : FallP ra rb z fs) : Calls Tryz.prog 12 #[.agg #[.slice KA 22 cA, .slice WA 0 dA, .slice KB 22 cB, .slice WB 0 dB, .int .i64 0, .int .i64 0, .int .i64 0, .slice none 0 0, .int .i64 0, .int .i64 0, .int .i64 0, .slice none 0 0, .bool false, .int .i64 0, .int .i64 0, .slice none 0 0, .slice none 0 0, .int .i64 0, .slice none 0 0]] w (RetLog w fs fs.length [7] (fun x => .tuple #[x, .bool true])) := by
  have HP := Lib.hid hP
  have hf8 := hP.r.ok.1
  clear hP
  have HIA : Hid (On (Rg 0 w.heap.size) (fun x => Dk x KA 22 WA 0 ra []) w) := Lib.hid (On.below_of (fun _ hb => (hA).below hb))
  clear hA
  have HIB : Hid (On (Rg 0 w.heap.size) (fun x => Dk x KB 22 WB 0 rb []) w) := Lib.hid (On.below_of (fun _ hb => (hB).below hb))
  clear hB
  go_enter Tryz.func12, Tryz.ntmps12
  go_wp2_with fail
  refine calls_named ?_
  rintro v0 hv0
  have f0 : Below w.heap.size w v0 := by rw [hv0]; (repeat' (first | (with_reducible exact Below.refl _ _) | (with_reducible assumption) | (with_reducible refine Below.alloc ?_ ?_ _) | (with_reducible refine Below.drew ?_) | (with_reducible refine Below.setCell ?_ ?_ _) | (with_reducible refine bstep (by assumption) ?_ ?_) | (with_reducible exact Nat.le_refl _) | omega | (simp [*]; done) | (simp [*]; omega)))
  have z0 : w.heap.size + 2 ≤ v0.heap.size := by rw [hv0]; simp [size_set]
  have HN_0 : Hid (Blk v0 w.heap.size 51 #[.slice KA 22 cA, .slice WA 0 dA, .slice KB 22 cB, .slice WB 0 dB, .int .i64 0, .int .i64 0, .int .i64 0, .slice none 0 0, .int .i64 0, .int .i64 0, .int .i64 0, .slice none 0 0, .bool false, .int .i64 0, .int .i64 0, .slice none 0 0, .slice none 0 0, .int .i64 0, .slice none 0 0]) := by rw [hv0]; exact Lib.hid (((Blk.new_at _ _ _ _ (by simp [size_set]))).alloc _)
  have HR_0 : Hid (Blk v0 (w.heap.size + 1) 51 #[.slice none 0 0, .slice none 0 0, .slice none 0 0, .slice none 0 0, .int .i64 0, .int .i64 0, .int .i64 0, .slice none 0 0, .int .i64 0, .int .i64 0, .int .i64 0, .slice none 0 0, .bool false, .int .i64 0, .int .i64 0, .slice none 0 0, .slice none 0 0, .int .i64 0, .slice none 0 0]) := by rw [hv0]; exact Lib.hid ((Blk.new_at _ _ _ _ (by simp [size_set])))
  clear hv0
  obtain ⟨gR, hgR⟩ : ∃ q, q = w.heap.size + 1 := ⟨_, rfl⟩
  rw [← hgR] at HR_0
  try rw [← hgR]
  have lgR : w.heap.size ≤ gR := by omega
  have mgR : gR < v0.heap.size := by omega
  have ngR : ∀ k, w.heap.size ≤ k → k ≠ gR → True := fun _ _ _ => trivial
  clear ngR
  obtain ⟨gN, hgN⟩ : ∃ q, q = w.heap.size := ⟨_, rfl⟩
  rw [← hgN] at HN_0
  try rw [← hgN]
  have lgN : w.heap.size ≤ gN := by omega
  have mgN : gN < v0.heap.size := by omega
  have ngN : ∀ k, w.heap.size ≤ k → k ≠ gN → True := fun _ _ _ => trivial
  clear ngN
  have nnNR : gN < gR := by omega
  clear hgN
  clear hgR
  refine (recovered_yes KA WA KB WB cA dA cB dB ra rb z fs v0 ((HIA.out).inB f0 (fun _ hk => hk.2)).out ((HIB.out).inB f0 (fun _ hk => hk.2)).out HP.out.a0 HP.out.b0 HP.out.a1 HP.out.b1 HP.out.z HP.out.r).mono ?_
  rintro e v1 ⟨KA', cA', WA', dA', KB', cB', WB', dB', L, lc, rfl, hO, b1, hcap⟩
  obtain ⟨n, hn⟩ : ∃ q, q = fs.length := ⟨_, rfl⟩
  have HN := Lib.hid hn
  rw [← hn] at hO hcap hf8
  try rw [← hn]
  clear hn
  have HCAP := Lib.hid hcap
  clear hcap
  have f1 := bthen f0 b1
  have z1 := b1.size
  have HN_1 := Lib.hid (HN_0.out.below b1)
  have HR_1 := Lib.hid (HR_0.out.below b1)
  clear HN_0 HR_0
  have HT_1 := Lib.hid (show On (Rg v0.heap.size v1.heap.size) (fun x => (Dk x KA' 22 WA' 0 (diskL [7] fs) [] ∧ Dk x KB' 22 WB' 0 (diskL [7] fs) []) ∧ Sl x 9 L n (EN fs)) v1 from hO)
  clear hO
  go_wp2_with fail
  refine calls_named ?_
  rintro v2 hv2
  have f2 : Below w.heap.size w v2 := by rw [hv2]; (repeat' (first | (with_reducible exact Below.refl _ _) | (with_reducible assumption) | (with_reducible refine Below.alloc ?_ ?_ _) | (with_reducible refine Below.drew ?_) | (with_reducible refine Below.setCell ?_ ?_ _) | (with_reducible refine bstep (by assumption) ?_ ?_) | (with_reducible exact Nat.le_refl _) | omega | (simp [*]; done) | (simp [*]; omega)))
  have z2 : v1.heap.size + 3 ≤ v2.heap.size := by rw [hv2]; simp [size_set]
  have HN_2 : Hid (Blk v2 gN 51 #[.slice KA 22 cA, .slice WA 0 dA, .slice KB 22 cB, .slice WB 0 dB, .int .i64 0, .int .i64 0, .int .i64 0, .slice none 0 0, .int .i64 0, .int .i64 0, .int .i64 0, .slice none 0 0, .bool false, .int .i64 0, .int .i64 0, .slice none 0 0, .slice none 0 0, .int .i64 0, .slice none 0 0]) := by rw [hv2]; exact Lib.hid ((((HN_1.out).alloc _).alloc _).alloc _)
  have HR_2 : Hid (Blk v2 gR 51 #[.slice none 0 0, .slice none 0 0, .slice none 0 0, .slice none 0 0, .int .i64 0, .int .i64 0, .int .i64 0, .slice none 0 0, .int .i64 0, .int .i64 0, .int .i64 0, .slice none 0 0, .bool false, .int .i64 0, .int .i64 0, .slice none 0 0, .slice none 0 0, .int .i64 0, .slice none 0 0]) := by rw [hv2]; exact Lib.hid ((((HR_1.out).alloc _).alloc _).alloc _)
  have HT_2 : Hid (On (Rg v0.heap.size v1.heap.size) (fun x => (Dk x KA' 22 WA' 0 (diskL [7] fs) [] ∧ Dk x KB' 22 WB' 0 (diskL [7] fs) []) ∧ Sl x 9 L n (EN fs)) v2) := by rw [hv2]; exact Lib.hid ((((HT_1.out).alloc _).alloc _).alloc _)
  have H4_2 : Hid (Blk v2 v1.heap.size 42 #[.slice KA' 22 cA', .slice WA' 0 dA', .slice KB' 22 cB', .slice WB' 0 dB']) := by rw [hv2]; exact Lib.hid ((((Blk.new_at _ _ _ _ (by simp [size_set]))).alloc _).alloc _)
  have H5_2 : Hid (Blk v2 (v1.heap.size + 1) 45 #[.int .i64 0, .int .i64 0, .int .i64 0, .slice none 0 0]) := by rw [hv2]; exact Lib.hid (((Blk.new_at _ _ _ _ (by simp [size_set]))).alloc _)
  have H6_2 : Hid (Blk v2 (v1.heap.size + 2) 48 #[.int .i64 0, .int .i64 0, .slice L n lc]) := by rw [hv2]; exact Lib.hid ((Blk.new_at _ _ _ _ (by simp [size_set])))
  clear hv2 HN_1 HR_1 HT_1
  obtain ⟨g6, hg6⟩ : ∃ q, q = v1.heap.size + 2 := ⟨_, rfl⟩
  rw [← hg6] at H6_2
  try rw [← hg6]
  have lg6 : v1.heap.size ≤ g6 := by omega
  have mg6 : g6 < v2.heap.size := by omega
  have ng6 : ∀ k, v1.heap.size ≤ k → k ≠ g6 → True := fun _ _ _ => trivial
  clear ng6
  obtain ⟨g5, hg5⟩ : ∃ q, q = v1.heap.size + 1 := ⟨_, rfl⟩
  rw [← hg5] at H5_2
  try rw [← hg5]
  have lg5 : v1.heap.size ≤ g5 := by omega
  have mg5 : g5 < v2.heap.size := by omega
  have ng5 : ∀ k, v1.heap.size ≤ k → k ≠ g5 → True := fun _ _ _ => trivial
  clear ng5
  obtain ⟨g4, hg4⟩ : ∃ q, q = v1.heap.size := ⟨_, rfl⟩
  rw [← hg4] at H4_2
  try rw [← hg4]
  have lg4 : v1.heap.size ≤ g4 := by omega
  have mg4 : g4 < v2.heap.size := by omega
  have ng4 : ∀ k, v1.heap.size ≤ k → k ≠ g4 → True := fun _ _ _ => trivial
  clear ng4
  have nn45 : g4 < g5 := by omega
  have nn46 : g4 < g6 := by omega
  have nn56 : g5 < g6 := by omega
  clear hg4
  clear hg5
  clear hg6
  have hcc := seenOver_yes none L 0 lc [] fs v2 (Sl.nil _ _ _) (by rw [← HN.out]; exact HT_2.out.out.2) (by rw [List.nil_append]; exact HP.out.r.ok)
  rw [List.nil_append, show markN [] = 0 from rfl, ← HN.out] at hcc
  obtain ⟨ns, hns⟩ : ∃ q, q = markN fs := ⟨_, rfl⟩
  have HNS := Lib.hid hns
  rw [← hns] at hcc
  clear hns
  refine hcc.mono ?_
  rintro e v3 ⟨S, sc, rfl, RS, b3⟩
  clear hcc
  have hRS := RS.on.map (fun v hv => hv.sl)
  clear RS
  have f3 := bthen f2 b3
  have z3 := b3.size
  have HN_3 := Lib.hid (HN_2.out.below b3)
  have HR_3 := Lib.hid (HR_2.out.below b3)
  have HT_3 := Lib.hid (HT_2.out.below b3)
  have H4_3 := Lib.hid (H4_2.out.below b3)
  have H5_3 := Lib.hid (H5_2.out.below b3)
  have H6_3 := Lib.hid (H6_2.out.below b3)
  clear HN_2 HR_2 HT_2 H4_2 H5_2 H6_2
  have HS_3 := Lib.hid (show On (Rg v2.heap.size v3.heap.size) (fun x => Sl x 3 S ns (markL fs)) v3 from hRS)
  clear hRS
  go_upto_region 5 with fail
  refine wp_region_held_drew (S := fun w' => Blk w' g4 42 #[.slice KA' 22 cA', .slice WA' 0 dA', .slice KB' 22 cB', .slice WB' 0 dB'] ∧ Blk w' g5 45 #[.int .i64 0, .int .i64 0, .int .i64 0, .slice none 0 0] ∧ Blk w' g6 48 #[.int .i64 0, .int .i64 0, .slice L n lc]) (by kernel_rfl) ⟨H4_3.out.drew, H5_3.out.drew, H6_3.out.drew⟩ (fun hS => ?_)
  refine wpAnyH_take (i := 0) (oi := _) (v := _) rfl (by kernel_rfl) (by kernel_rfl) (by kernel_rfl) (fun _ _ _ h => h) (yieldsIf_load_mid (by rfl) 42 (.tmp 4) rfl g4 0 rfl [.slice KA' 22 cA', .slice WA' 0 dA', .slice KB' 22 cB', .slice WB' 0 dB'] _ (fun w' h => blk_range h.1 _ rfl) Tryz.underlying42 rfl (by kernel_rfl)) hS ?_
  change wpAnyH _ _ _ _ _ _ _ (Act.put _ (some 29) _) _
  simp only [Act.put, List.setIfInBounds_toArray, List.set_cons_zero, List.set_cons_succ]
  refine wpAnyH_take (i := 1) (oi := _) (v := _) rfl (by kernel_rfl) (by kernel_rfl) (by kernel_rfl) (fun _ _ _ h => h) (yieldsIf_load_mid (by rfl) 45 (.tmp 5) rfl g5 0 rfl [.int .i64 0, .int .i64 0, .int .i64 0, .slice none 0 0] _ (fun w' h => blk_range h.2.1 _ rfl) Tryz.underlying45 rfl (by kernel_rfl)) hS ?_
  change wpAnyH _ _ _ _ _ _ _ (Act.put _ (some 30) _) _
  simp only [Act.put, List.setIfInBounds_toArray, List.set_cons_zero, List.set_cons_succ]
  refine wpAnyH_take (i := 2) (oi := _) (v := _) rfl (by kernel_rfl) (by kernel_rfl) (by kernel_rfl) (fun _ _ _ h => h) (yieldsIf_load_mid (by rfl) 48 (.tmp 6) rfl g6 0 rfl [.int .i64 0, .int .i64 0, .slice L n lc] _ (fun w' h => blk_range h.2.2 _ rfl) Tryz.underlying48 rfl (by kernel_rfl)) hS ?_
  change wpAnyH _ _ _ _ _ _ _ (Act.put _ (some 31) _) _
  simp only [Act.put, List.setIfInBounds_toArray, List.set_cons_zero, List.set_cons_succ]
  refine wpAnyH_take (i := 3) (oi := _) (v := ?_) rfl (by kernel_rfl) (by kernel_rfl) (by kernel_rfl) (fun _ _ _ h => h) (Or.inl ⟨by rfl, ?_⟩) hS ?_
  rotate_left 1
  · intro w hSw; clear hSw; (go_simp <;> with_reducible rfl)
  change wpAnyH _ _ _ _ _ _ _ (Act.put _ (some 32) _) _
  simp only [Act.put, List.setIfInBounds_toArray, List.set_cons_zero, List.set_cons_succ]
  refine wpAnyH_take (i := 4) (oi := _) (v := _) rfl (by kernel_rfl) (by kernel_rfl) (by kernel_rfl) (fun _ _ _ h => h) (yieldsIf_load_mid (by rfl) 48 (.tmp 6) rfl g6 0 rfl [.int .i64 0, .int .i64 0, .slice L n lc] _ (fun w' h => blk_range h.2.2 _ rfl) Tryz.underlying48 rfl (by kernel_rfl)) hS ?_
  change wpAnyH _ _ _ _ _ _ _ (Act.put _ (some 33) _) _
  simp only [Act.put, List.setIfInBounds_toArray, List.set_cons_zero, List.set_cons_succ]
  refine wpAnyH_ready (rs := [5]) (by kernel_rfl) (by simp) ?_
  refine AllReadyH.cons rfl (fun K hK => ?_) ?_
  · skip
    go_simp
    go_at_call 38
    refine (lastOf_zero L n lc _ (by omega)).mono ?_
    rintro e v4 ⟨rfl, b4⟩
    have e4 : Below v3.heap.size v3 v4 := dr1 b4
    have z4 := e4.size
    refine hK.out _ _ (⟨H4_3.out.below e4, H5_3.out.below e4, H6_3.out.below e4⟩) (fun hS => ?_)
    clear hK K
    try change wpAnyH _ _ _ _ _ _ _ (Act.put _ (some 34) _) _
    try simp only [Act.put, List.setIfInBounds_toArray, List.set_cons_zero, List.set_cons_succ]
    refine wpAnyH_take (i := 6) (oi := _) (v := ?_) rfl (by kernel_rfl) (by kernel_rfl) (by kernel_rfl) (fun _ _ _ h => h) (Or.inl ⟨by rfl, ?_⟩) hS ?_
    rotate_left 1
    · intro w hSw; clear hSw; (go_simp <;> with_reducible rfl)
    change wpAnyH _ _ _ _ _ _ _ (Act.put _ (some 35) _) _
    simp only [Act.put, List.setIfInBounds_toArray, List.set_cons_zero, List.set_cons_succ]
    refine wpAnyH_ready (rs := [7]) (by kernel_rfl) (by simp) ?_
    refine AllReadyH.cons rfl (fun K hK => ?_) ?_
    · skip
      rw [if_pos (by rfl)]
      have HRf := HR_3.out.below e4
      refine wp_store_row 51 (.tmp 2) (.tmp 35) rfl gR #[.slice KA' 22 cA', .slice WA' 0 dA', .slice KB' 22 cB', .slice WB' 0 dB', .int .i64 0, .int .i64 0, .int .i64 0, .slice none 0 0, .int .i64 0, .int .i64 0, .int .i64 0, .slice none 0 0, .bool false, .int .i64 0, .int .i64 0, .slice L n lc, .slice S ns sc, .int .i64 (n : Nat), .slice none 0 0] rfl rfl 51 #[.slice none 0 0, .slice none 0 0, .slice none 0 0, .slice none 0 0, .int .i64 0, .int .i64 0, .int .i64 0, .slice none 0 0, .int .i64 0, .int .i64 0, .int .i64 0, .slice none 0 0, .bool false, .int .i64 0, .int .i64 0, .slice none 0 0, .slice none 0 0, .int .i64 0, .slice none 0 0] HRf (by kernel_rfl) rfl (by simp [Value.oneCell']) ?_
      refine hK.out _ _ (⟨hS.1.rowFar (show g4 ≠ gR by omega) _, hS.2.1.rowFar (show g5 ≠ gR by omega) _, hS.2.2.rowFar (show g6 ≠ gR by omega) _⟩) (fun hS => ?_)
      clear hK K
      try change wpAnyH _ _ _ _ _ _ _ (Act.put _ none _) _
      try simp only [Act.put, List.setIfInBounds_toArray, List.set_cons_zero, List.set_cons_succ]
      refine wpAnyH_take (i := 8) (oi := _) (v := ?_) rfl (by kernel_rfl) (by kernel_rfl) (by kernel_rfl) (fun _ _ _ h => h) (Or.inl ⟨by rfl, ?_⟩) hS ?_
      rotate_left 1
      · intro w hSw; clear hSw; (go_simp <;> with_reducible rfl)
      change wpAnyH _ _ _ _ _ _ _ (Act.put _ (some 3) _) _
      simp only [Act.put, List.setIfInBounds_toArray, List.set_cons_zero, List.set_cons_succ]
      refine wpAnyH_done (by kernel_rfl) ?_ _
      go_wp21
      refine bodyPost_ret (v := .tuple #[.agg #[.slice KA' 22 cA', .slice WA' 0 dA', .slice KB' 22 cB', .slice WB' 0 dB', .int .i64 0, .int .i64 0, .int .i64 0, .slice none 0 0, .int .i64 0, .int .i64 0, .int .i64 0, .slice none 0 0, .bool false, .int .i64 0, .int .i64 0, .slice L n lc, .slice S ns sc, .int .i64 (n : Nat), .slice none 0 0], .bool true]) (results_row_tmp rfl _ _ gR 51 #[.slice KA' 22 cA', .slice WA' 0 dA', .slice KB' 22 cB', .slice WB' 0 dB', .int .i64 0, .int .i64 0, .int .i64 0, .slice none 0 0, .int .i64 0, .int .i64 0, .int .i64 0, .slice none 0 0, .bool false, .int .i64 0, .int .i64 0, .slice L n lc, .slice S ns sc, .int .i64 (n : Nat), .slice none 0 0] (0, 0) _ _ rfl (HRf.setRow _) Tryz.underlying51 rfl (by kernel_rfl) rfl) rfl ?_
      have hT := ((HT_3.out.below e4).rowFar (g := gR) (Rg.no (by omega)) #[.slice KA' 22 cA', .slice WA' 0 dA', .slice KB' 22 cB', .slice WB' 0 dB', .int .i64 0, .int .i64 0, .int .i64 0, .slice none 0 0, .int .i64 0, .int .i64 0, .int .i64 0, .slice none 0 0, .bool false, .int .i64 0, .int .i64 0, .slice L n lc, .slice S ns sc, .int .i64 (n : Nat), .slice none 0 0]).sub (Rg.sub (c := w.heap.size) (d := (v4.setRow gR #[.slice KA' 22 cA', .slice WA' 0 dA', .slice KB' 22 cB', .slice WB' 0 dB', .int .i64 0, .int .i64 0, .int .i64 0, .slice none 0 0, .int .i64 0, .int .i64 0, .int .i64 0, .slice none 0 0, .bool false, .int .i64 0, .int .i64 0, .slice L n lc, .slice S ns sc, .int .i64 (n : Nat), .slice none 0 0]).heap.size) (by omega) (by rw [setRow_size]; omega))
      have hS2 := ((HS_3.out.below e4).rowFar (g := gR) (Rg.no (by omega)) #[.slice KA' 22 cA', .slice WA' 0 dA', .slice KB' 22 cB', .slice WB' 0 dB', .int .i64 0, .int .i64 0, .int .i64 0, .slice none 0 0, .int .i64 0, .int .i64 0, .int .i64 0, .slice none 0 0, .bool false, .int .i64 0, .int .i64 0, .slice L n lc, .slice S ns sc, .int .i64 (n : Nat), .slice none 0 0]).sub (Rg.sub (c := w.heap.size) (d := (v4.setRow gR #[.slice KA' 22 cA', .slice WA' 0 dA', .slice KB' 22 cB', .slice WB' 0 dB', .int .i64 0, .int .i64 0, .int .i64 0, .slice none 0 0, .int .i64 0, .int .i64 0, .int .i64 0, .slice none 0 0, .bool false, .int .i64 0, .int .i64 0, .slice L n lc, .slice S ns sc, .int .i64 (n : Nat), .slice none 0 0]).heap.size) (by omega) (by rw [setRow_size]; omega))
      refine ⟨KA', cA', WA', dA', KB', cB', WB', dB', none, 0, none, 0, L, lc, S, sc, none, 0, 0, n, ns, 0, by rw [← HN.out], ?_, Below.rowFar (bthen f3 e4) (g := gR) (by omega) _⟩
      rw [← HN.out]
      exact (hT.and hS2).map (fun x h => ⟨by rw [HN.out, List.take_length, waitD_all]; exact h.1.1.1, by rw [HN.out, List.take_length, waitD_all]; exact h.1.1.2, h.1.2, h.2, by rw [HN.out, oweL_all]; exact Sl.nil _ _ _, by rw [HN.out, waitN_all], HN.out, HNS.out, by rw [HN.out, oweN_all], HCAP.out, HP.out.r.ok, .inr rfl, by rw [HN.out]; exact Nat.le_refl _, by rw [HN.out]; exact Nat.le_succ _⟩)
    exact AllReadyH.nil
  exact AllReadyH.nil
end Go.Proofs.YtbheflinchabgaaGreatDoor
namespace Go.Proofs.YtbheflinchabgaaGreatDoor
set_option linter.unusedSimpArgs false
set_option linter.unusedVariables false
attribute [local go_sem] n_lt2 n_lt3 n_lt4 n_le2 n_le3
open Go.RowKit
attribute [local go_sem] Ext.cell Ext.frozen
def RetSync (w : World) (n ns no : Nat) (es : List En) (D : Nat) (z : List Int) (e : Ending) (w' : World) : Prop := ∃ KA cA WA dA KB cB WB dB H hc X xc L lc S sc O oc Oo po, e = .returned (.tuple #[.agg #[.slice KA 22 cA, .slice WA 0 dA, .slice KB 22 cB, .slice WB 0 dB, .int .i64 0, .int .i64 0, .int .i64 0, .slice H 0 hc, .int .i64 0, .int .i64 0, .int .i64 0, .slice X 0 xc, .bool false, .int .i64 0, .int .i64 0, .slice L n lc, .slice S ns sc, .int .i64 (n : Nat), .slice O 0 oc], .slice Oo no po]) ∧
  On (Rg w.heap.size w'.heap.size) (fun x => LgW x KA WA KB WB L S O lc 0 n ns 0 es es.length z ∧ Sl x 4 Oo no (oweL es D)) w' ∧ Below w.heap.size w w'
set_option maxRecDepth 100000 in
set_option maxHeartbeats 8000000 in
theorem syncedLog_yes (KA : Option Addr) (cA : Nat) (WA : Option Addr) (dA : Nat) (KB : Option Addr) (cB : Nat) (WB : Option Addr) (dB : Nat) (H : Option Addr) (hc : Nat) (X : Option Addr) (xc : Nat) (L : Option Addr) (lc : Nat) (S : Option Addr) (sc : Nat) (O : Option Addr) (oc : Nat) (m n ns no D : Nat) (es : List En) (z : List Int) (w : World) (hG : LgW w KA WA KB WB L S O lc m n ns no es D z) : Calls Tryz.prog 15 #[.agg #[.slice KA 22 cA, .slice WA m dA, .slice KB 22 cB, .slice WB m dB, .int .i64 0, .int .i64 0, .int .i64 0, .slice H 0 hc, .int .i64 0, .int .i64 0, .int .i64 0, .slice X 0 xc, .bool false, .int .i64 0, .int .i64 0, .slice L n lc, .slice S ns sc, .int .i64 (D : Nat), .slice O no oc]] w (RetSync w n ns no es D z) := by
  have HPL := Lib.hid (And.intro hG.p (And.intro hG.z (And.intro hG.d1 hG.d2)))
  have HNN := Lib.hid hG.hn
  have hm1 : m ≤ 1 := by rw [hG.hm]; exact waitN_le es D
  have hn8 : n ≤ 8 := by have := hG.p.1; rw [← hG.hn] at this; exact this
  have HIG : Hid (On (Rg 0 w.heap.size) (fun x => LgW x KA WA KB WB L S O lc m n ns no es D z) w) := Lib.hid (On.below_of (fun _ hb => (hG).below hb))
  clear hG
  go_enter Tryz.func15, Tryz.ntmps15
  go_upto_region 1 with fail
  obtain ⟨v0, hv0⟩ : ∃ x : World, x = ((w.alloc (.cells #[.slice KA 22 cA, .slice WA m dA, .slice KB 22 cB, .slice WB m dB, .int .i64 0, .int .i64 0, .int .i64 0, .slice H 0 hc, .int .i64 0, .int .i64 0, .int .i64 0, .slice X 0 xc, .bool false, .int .i64 0, .int .i64 0, .slice L n lc, .slice S ns sc, .int .i64 (D : Nat), .slice O no oc] 51)).alloc (.cells #[.slice none 0 0, .slice none 0 0, .slice none 0 0, .slice none 0 0, .int .i64 0, .int .i64 0, .int .i64 0, .slice none 0 0, .int .i64 0, .int .i64 0, .int .i64 0, .slice none 0 0, .bool false, .int .i64 0, .int .i64 0, .slice none 0 0, .slice none 0 0, .int .i64 0, .slice none 0 0] 51)) := ⟨_, rfl⟩
  rw [← hv0]
  have f0 : Below w.heap.size w v0 := by rw [hv0]; (repeat' (first | (with_reducible exact Below.refl _ _) | (with_reducible assumption) | (with_reducible refine Below.alloc ?_ ?_ _) | (with_reducible refine Below.drew ?_) | (with_reducible refine Below.setCell ?_ ?_ _) | (with_reducible refine bstep (by assumption) ?_ ?_) | (with_reducible exact Nat.le_refl _) | omega | (simp [*]; done) | (simp [*]; omega)))
  have z0 : w.heap.size + 2 ≤ v0.heap.size := by rw [hv0]; simp [size_set]
  have HN_0 : Hid (Blk v0 w.heap.size 51 #[.slice KA 22 cA, .slice WA m dA, .slice KB 22 cB, .slice WB m dB, .int .i64 0, .int .i64 0, .int .i64 0, .slice H 0 hc, .int .i64 0, .int .i64 0, .int .i64 0, .slice X 0 xc, .bool false, .int .i64 0, .int .i64 0, .slice L n lc, .slice S ns sc, .int .i64 (D : Nat), .slice O no oc]) := by rw [hv0]; exact Lib.hid (((Blk.new_at _ _ _ _ (by simp [size_set]))).alloc _)
  have HR_0 : Hid (Blk v0 (w.heap.size + 1) 51 #[.slice none 0 0, .slice none 0 0, .slice none 0 0, .slice none 0 0, .int .i64 0, .int .i64 0, .int .i64 0, .slice none 0 0, .int .i64 0, .int .i64 0, .int .i64 0, .slice none 0 0, .bool false, .int .i64 0, .int .i64 0, .slice none 0 0, .slice none 0 0, .int .i64 0, .slice none 0 0]) := by rw [hv0]; exact Lib.hid ((Blk.new_at _ _ _ _ (by simp [size_set])))
  clear hv0
  obtain ⟨gR, hgR⟩ : ∃ q, q = w.heap.size + 1 := ⟨_, rfl⟩
  rw [← hgR] at HR_0
  try rw [← hgR]
  have lgR : w.heap.size ≤ gR := by omega
  have mgR : gR < v0.heap.size := by omega
  have ngR : ∀ k, w.heap.size ≤ k → k ≠ gR → True := fun _ _ _ => trivial
  clear ngR
  obtain ⟨gN, hgN⟩ : ∃ q, q = w.heap.size := ⟨_, rfl⟩
  rw [← hgN] at HN_0
  try rw [← hgN]
  have lgN : w.heap.size ≤ gN := by omega
  have mgN : gN < v0.heap.size := by omega
  have ngN : ∀ k, w.heap.size ≤ k → k ≠ gN → True := fun _ _ _ => trivial
  clear ngN
  have nnNR : gN < gR := by omega
  clear hgN
  clear hgR
  go_wp2_with (show wpList _ _ _ (Oper.mk _ (Op.load 51 _) _ _ _ _ :: _) _ _; refine wpList_load_row rfl 51 _ rfl gN rfl 51 #[.slice KA 22 cA, .slice WA m dA, .slice KB 22 cB, .slice WB m dB, .int .i64 0, .int .i64 0, .int .i64 0, .slice H 0 hc, .int .i64 0, .int .i64 0, .int .i64 0, .slice X 0 xc, .bool false, .int .i64 0, .int .i64 0, .slice L n lc, .slice S ns sc, .int .i64 (D : Nat), .slice O no oc] (0, 0) _ HN_0.out Tryz.underlying51 rfl (by kernel_rfl) ?_)
  refine (logOk_yes KA cA WA dA KB cB WB dB H hc X xc L lc S sc O oc m n ns no D es z v0 ((HIG.out).inB f0 (fun _ hk => hk.2)).out).mono ?_
  rintro e v1 ⟨rfl, b1⟩
  have f1 := bthen f0 b1
  have z1 := b1.size
  have HN_1 := Lib.hid (HN_0.out.below b1)
  have HR_1 := Lib.hid (HR_0.out.below b1)
  clear HN_0 HR_0
  go_wp2_with (show wpList _ _ _ (Oper.mk _ (Op.load 51 _) _ _ _ _ :: _) _ _; refine wpList_load_row rfl 51 _ rfl gN rfl 51 #[.slice KA 22 cA, .slice WA m dA, .slice KB 22 cB, .slice WB m dB, .int .i64 0, .int .i64 0, .int .i64 0, .slice H 0 hc, .int .i64 0, .int .i64 0, .int .i64 0, .slice X 0 xc, .bool false, .int .i64 0, .int .i64 0, .slice L n lc, .slice S ns sc, .int .i64 (D : Nat), .slice O no oc] (0, 0) _ HN_1.out Tryz.underlying51 rfl (by kernel_rfl) ?_)
  refine (copyLog_yes KA cA WA dA KB cB WB dB H hc X xc L lc S sc O oc m n ns no D es z v1 ((HIG.out).inB f1 (fun _ hk => hk.2)).out).mono ?_
  rintro e v2 ⟨KA', cA', WA', dA', KB', cB', WB', dB', H', hc', X', xc', L', lc', S', sc', O', oc', rfl, hO, -, b2⟩
  have f2 := bthen f1 b2
  have z2 := b2.size
  have HN_2 := Lib.hid (HN_1.out.below b2)
  have HR_2 := Lib.hid (HR_1.out.below b2)
  clear HN_1 HR_1
  have HT_2 := Lib.hid (show On (Rg v1.heap.size v2.heap.size) (fun x => LgW x KA' WA' KB' WB' L' S' O' lc' m n ns no es D z) v2 from hO)
  clear hO
  go_upto_region 5 with (show wpList _ _ _ (Oper.mk _ (Op.store 51 _ _) _ _ _ _ :: _) _ _; refine wpList_store_new rfl 51 _ _ rfl _ #[.slice KA' 22 cA', .slice WA' m dA', .slice KB' 22 cB', .slice WB' m dB', .int .i64 0, .int .i64 0, .int .i64 0, .slice H' 0 hc', .int .i64 0, .int .i64 0, .int .i64 0, .slice X' 0 xc', .bool false, .int .i64 0, .int .i64 0, .slice L' n lc', .slice S' ns sc', .int .i64 (D : Nat), .slice O' no oc'] #[.slice none 0 0, .slice none 0 0, .slice none 0 0, .slice none 0 0, .int .i64 0, .int .i64 0, .int .i64 0, .slice none 0 0, .int .i64 0, .int .i64 0, .int .i64 0, .slice none 0 0, .bool false, .int .i64 0, .int .i64 0, .slice none 0 0, .slice none 0 0, .int .i64 0, .slice none 0 0] rfl rfl rfl (by kernel_rfl) rfl (by simp [Value.oneCell']) rfl ?_)
  obtain ⟨v3, hv3⟩ : ∃ x : World, x = (v2.alloc (.cells #[.slice KA' 22 cA', .slice WA' m dA', .slice KB' 22 cB', .slice WB' m dB', .int .i64 0, .int .i64 0, .int .i64 0, .slice H' 0 hc', .int .i64 0, .int .i64 0, .int .i64 0, .slice X' 0 xc', .bool false, .int .i64 0, .int .i64 0, .slice L' n lc', .slice S' ns sc', .int .i64 (D : Nat), .slice O' no oc'] 51)) := ⟨_, rfl⟩
  rw [← hv3]
  have f3 : Below w.heap.size w v3 := by rw [hv3]; (repeat' (first | (with_reducible exact Below.refl _ _) | (with_reducible assumption) | (with_reducible refine Below.alloc ?_ ?_ _) | (with_reducible refine Below.drew ?_) | (with_reducible refine Below.setCell ?_ ?_ _) | (with_reducible refine bstep (by assumption) ?_ ?_) | (with_reducible exact Nat.le_refl _) | omega | (simp [*]; done) | (simp [*]; omega)))
  have z3 : v2.heap.size + 1 ≤ v3.heap.size := by rw [hv3]; simp [size_set]
  have HN_3 : Hid (Blk v3 gN 51 #[.slice KA 22 cA, .slice WA m dA, .slice KB 22 cB, .slice WB m dB, .int .i64 0, .int .i64 0, .int .i64 0, .slice H 0 hc, .int .i64 0, .int .i64 0, .int .i64 0, .slice X 0 xc, .bool false, .int .i64 0, .int .i64 0, .slice L n lc, .slice S ns sc, .int .i64 (D : Nat), .slice O no oc]) := by rw [hv3]; exact Lib.hid ((HN_2.out).alloc _)
  have HR_3 : Hid (Blk v3 gR 51 #[.slice none 0 0, .slice none 0 0, .slice none 0 0, .slice none 0 0, .int .i64 0, .int .i64 0, .int .i64 0, .slice none 0 0, .int .i64 0, .int .i64 0, .int .i64 0, .slice none 0 0, .bool false, .int .i64 0, .int .i64 0, .slice none 0 0, .slice none 0 0, .int .i64 0, .slice none 0 0]) := by rw [hv3]; exact Lib.hid ((HR_2.out).alloc _)
  have HT_3 : Hid (On (Rg v1.heap.size v2.heap.size) (fun x => LgW x KA' WA' KB' WB' L' S' O' lc' m n ns no es D z) v3) := by rw [hv3]; exact Lib.hid ((HT_2.out).alloc _)
  have HC_3 : Hid (Blk v3 v2.heap.size 51 #[.slice KA' 22 cA', .slice WA' m dA', .slice KB' 22 cB', .slice WB' m dB', .int .i64 0, .int .i64 0, .int .i64 0, .slice H' 0 hc', .int .i64 0, .int .i64 0, .int .i64 0, .slice X' 0 xc', .bool false, .int .i64 0, .int .i64 0, .slice L' n lc', .slice S' ns sc', .int .i64 (D : Nat), .slice O' no oc']) := by rw [hv3]; exact Lib.hid ((Blk.new_at _ _ _ _ (by simp [size_set])))
  clear hv3 HN_2 HR_2 HT_2
  obtain ⟨gC, hgC⟩ : ∃ q, q = v2.heap.size := ⟨_, rfl⟩
  rw [← hgC] at HC_3
  try rw [← hgC]
  have lgC : v2.heap.size ≤ gC := by omega
  have mgC : gC < v3.heap.size := by omega
  have ngC : ∀ k, v2.heap.size ≤ k → k ≠ gC → True := fun _ _ _ => trivial
  clear ngC
  clear hgC
  have HGI := Lib.hid (fun (X : World) (hb : Below w.heap.size w X) => (HIG.out.inB hb (fun _ hk => hk.2)).out)
  refine wp_region_held_drew (S := fun w' => Blk w' gN 51 #[.slice KA 22 cA, .slice WA m dA, .slice KB 22 cB, .slice WB m dB, .int .i64 0, .int .i64 0, .int .i64 0, .slice H 0 hc, .int .i64 0, .int .i64 0, .int .i64 0, .slice X 0 xc, .bool false, .int .i64 0, .int .i64 0, .slice L n lc, .slice S ns sc, .int .i64 (D : Nat), .slice O no oc]) (by kernel_rfl) HN_3.out.drew (fun hS => ?_)
  refine wpAnyH_take (i := 0) (oi := _) (v := ?_) rfl (by kernel_rfl) (by kernel_rfl) (by kernel_rfl) (fun _ _ _ h => h) (Or.inl ⟨by rfl, ?_⟩) hS ?_
  rotate_left 1
  · intro w hSw; clear hSw; (go_simp <;> with_reducible rfl)
  change wpAnyH _ _ _ _ _ _ _ (Act.put _ (some 14) _) _
  simp only [Act.put, List.setIfInBounds_toArray, List.set_cons_zero, List.set_cons_succ]
  refine wpAnyH_take (i := 1) (oi := _) (v := _) rfl (by kernel_rfl) (by kernel_rfl) (by kernel_rfl) (fun _ _ _ h => h) (yieldsIf_load_mid (by rfl) 42 (.tmp 14) rfl gN 0 rfl [.slice KA 22 cA, .slice WA m dA, .slice KB 22 cB, .slice WB m dB] _ (fun w' h => blk_part h 0 4 _ rfl) Tryz.underlying42 rfl (by kernel_rfl)) hS ?_
  change wpAnyH _ _ _ _ _ _ _ (Act.put _ (some 15) _) _
  simp only [Act.put, List.setIfInBounds_toArray, List.set_cons_zero, List.set_cons_succ]
  refine wpAnyH_take (i := 3) (oi := _) (v := ?_) rfl (by kernel_rfl) (by kernel_rfl) (by kernel_rfl) (fun _ _ _ h => h) (Or.inl ⟨by rfl, ?_⟩) hS ?_
  rotate_left 1
  · intro w hSw; clear hSw; (go_simp <;> with_reducible rfl)
  change wpAnyH _ _ _ _ _ _ _ (Act.put _ (some 17) _) _
  simp only [Act.put, List.setIfInBounds_toArray, List.set_cons_zero, List.set_cons_succ]
  refine wpAnyH_take (i := 4) (oi := _) (v := _) rfl (by kernel_rfl) (by kernel_rfl) (by kernel_rfl) (fun _ _ _ h => h) (yieldsIf_load_mid (by rfl) 48 (.tmp 17) rfl gN 13 rfl [.int .i64 0, .int .i64 0, .slice L n lc] _ (fun w' h => blk_part h 13 3 _ rfl) Tryz.underlying48 rfl (by kernel_rfl)) hS ?_
  change wpAnyH _ _ _ _ _ _ _ (Act.put _ (some 18) _) _
  simp only [Act.put, List.setIfInBounds_toArray, List.set_cons_zero, List.set_cons_succ]
  refine wpAnyH_ready (rs := [2]) (by kernel_rfl) (by simp) ?_
  refine AllReadyH.cons rfl (fun K hK => ?_) ?_
  · skip
    go_simp
    go_at_call 40
    have hcc := bothSynced_any KA WA KB WB cA dA cB dB m m (diskL z (es.take D)) (diskL z (es.take D)) (waitD es D) (waitD es D) v3.drew (HGI.out _ (Below.drew f3)).a (HGI.out _ (Below.drew f3)).b hm1 hm1
    rw [syncL_wait HPL.out.1 HPL.out.2.2.1 HPL.out.2.2.2] at hcc
    refine hcc.mono ?_
    clear hcc
    rintro e v4 ⟨K1, c1, W1, d1, K2, c2, W2, d2, rfl, hO, b4⟩
    have E4 : Below v3.heap.size v3 v4 := dr1 b4
    have z4 := E4.size
    have HD4 := Lib.hid hO
    clear hO
    refine hK.out _ _ (HN_3.out.below E4) (fun hS => ?_)
    clear hK K
    try change wpAnyH _ _ _ _ _ _ _ (Act.put _ (some 16) _) _
    try simp only [Act.put, List.setIfInBounds_toArray, List.set_cons_zero, List.set_cons_succ]
    refine wpAnyH_take (i := 6) (oi := _) (v := ?_) rfl (by kernel_rfl) (by kernel_rfl) (by kernel_rfl) (fun _ _ _ h => h) (Or.inl ⟨by rfl, ?_⟩) hS ?_
    rotate_left 1
    · intro w hSw; clear hSw; (go_simp <;> with_reducible rfl)
    change wpAnyH _ _ _ _ _ _ _ (Act.put _ (some 20) _) _
    simp only [Act.put, List.setIfInBounds_toArray, List.set_cons_zero, List.set_cons_succ]
    refine wpAnyH_ready (rs := [5]) (by kernel_rfl) (by simp) ?_
    refine AllReadyH.cons rfl (fun K hK => ?_) ?_
    · skip
      go_simp
      go_at_call 38
      refine (lastOf_zero L n lc _ (by omega)).mono ?_
      rintro e v5 ⟨rfl, b5⟩
      have E5 : Below v3.heap.size v3 v5 := bthen E4 b5
      have z5 := b5.size
      have KC := HC_3.out.below E5
      have x0 := KC.cell 0
      have w0 := KC.frozen 0
      have x1 := KC.cell 1
      have w1 := KC.frozen 1
      have x2 := KC.cell 2
      have w2 := KC.frozen 2
      have x3 := KC.cell 3
      have w3 := KC.frozen 3
      have x17 := KC.cell 17
      have w17 := KC.frozen 17
      have x18 := KC.cell 18
      have w18 := KC.frozen 18
      have ltC := KC.lt
      refine hK.out _ _ (HN_3.out.below E5) (fun hS => ?_)
      clear hK K
      try change wpAnyH _ _ _ _ _ _ _ (Act.put _ (some 19) _) _
      try simp only [Act.put, List.setIfInBounds_toArray, List.set_cons_zero, List.set_cons_succ]
      refine wpAnyH_ready (rs := [7]) (by kernel_rfl) (by simp) ?_
      refine AllReadyH.cons rfl (fun K hK => ?_) ?_
      · skip
        go_simp
        refine hK.out _ _ (((((hS).far (p := ⟨gC, 0, none⟩) (show gN ≠ gC by omega) _).far (p := ⟨gC, 1, none⟩) (show gN ≠ gC by omega) _).far (p := ⟨gC, 2, none⟩) (show gN ≠ gC by omega) _).far (p := ⟨gC, 3, none⟩) (show gN ≠ gC by omega) _) (fun hS => ?_)
        clear hK K
        try change wpAnyH _ _ _ _ _ _ _ (Act.put _ none _) _
        try simp only [Act.put, List.setIfInBounds_toArray, List.set_cons_zero, List.set_cons_succ]
        refine wpAnyH_take (i := 8) (oi := _) (v := ?_) rfl (by kernel_rfl) (by kernel_rfl) (by kernel_rfl) (fun _ _ _ h => h) (Or.inl ⟨by rfl, ?_⟩) hS ?_
        rotate_left 1
        · intro w hSw; clear hSw; (go_simp <;> with_reducible rfl)
        change wpAnyH _ _ _ _ _ _ _ (Act.put _ (some 21) _) _
        simp only [Act.put, List.setIfInBounds_toArray, List.set_cons_zero, List.set_cons_succ]
        refine wpAnyH_ready (rs := [9]) (by kernel_rfl) (by simp) ?_
        refine AllReadyH.cons rfl (fun K hK => ?_) ?_
        · skip
          go_simp
          refine hK.out _ _ ((hS).far (p := ⟨gC, 18, none⟩) (show gN ≠ gC by omega) _) (fun hS => ?_)
          clear hK K
          try change wpAnyH _ _ _ _ _ _ _ (Act.put _ none _) _
          try simp only [Act.put, List.setIfInBounds_toArray, List.set_cons_zero, List.set_cons_succ]
          refine wpAnyH_take (i := 10) (oi := _) (v := ?_) rfl (by kernel_rfl) (by kernel_rfl) (by kernel_rfl) (fun _ _ _ h => h) (Or.inl ⟨by rfl, ?_⟩) hS ?_
          rotate_left 1
          · intro w hSw; clear hSw; (go_simp <;> with_reducible rfl)
          change wpAnyH _ _ _ _ _ _ _ (Act.put _ (some 22) _) _
          simp only [Act.put, List.setIfInBounds_toArray, List.set_cons_zero, List.set_cons_succ]
          refine wpAnyH_ready (rs := [11]) (by kernel_rfl) (by simp) ?_
          refine AllReadyH.cons rfl (fun K hK => ?_) ?_
          · skip
            go_simp
            refine hK.out _ _ ((hS).far (p := ⟨gC, 17, none⟩) (show gN ≠ gC by omega) _) (fun hS => ?_)
            clear hK K
            try change wpAnyH _ _ _ _ _ _ _ (Act.put _ none _) _
            try simp only [Act.put, List.setIfInBounds_toArray, List.set_cons_zero, List.set_cons_succ]
            refine wpAnyH_done (by kernel_rfl) ?_ _
            have z3d : v3.heap.size ≤ v3.drew.heap.size := Nat.le_refl _
            obtain ⟨v6, hv6⟩ : ∃ x : World, x = ((((((v5.setCell ⟨gC, 0, none⟩ (.slice K1 22 c1)).setCell ⟨gC, 1, none⟩ (.slice W1 0 d1)).setCell ⟨gC, 2, none⟩ (.slice K2 22 c2)).setCell ⟨gC, 3, none⟩ (.slice W2 0 d2)).setCell ⟨gC, 18, none⟩ (.slice none 0 0)).setCell ⟨gC, 17, none⟩ (.int .i64 (n : Nat))) := ⟨_, rfl⟩
            rw [← hv6]
            have HC6 : Hid (Blk v6 gC 51 #[.slice K1 22 c1, .slice W1 0 d1, .slice K2 22 c2, .slice W2 0 d2, .int .i64 0, .int .i64 0, .int .i64 0, .slice H' 0 hc', .int .i64 0, .int .i64 0, .int .i64 0, .slice X' 0 xc', .bool false, .int .i64 0, .int .i64 0, .slice L' n lc', .slice S' ns sc', .int .i64 (n : Nat), .slice none 0 0]) := by rw [hv6]; exact Lib.hid (((((((KC).set_ 0 (.slice K1 22 c1)).set_ 1 (.slice W1 0 d1)).set_ 2 (.slice K2 22 c2)).set_ 3 (.slice W2 0 d2)).set_ 18 (.slice none 0 0)).set_ 17 (.int .i64 (n : Nat)))
            have HN6 : Hid (Blk v6 gN 51 #[.slice KA 22 cA, .slice WA m dA, .slice KB 22 cB, .slice WB m dB, .int .i64 0, .int .i64 0, .int .i64 0, .slice H 0 hc, .int .i64 0, .int .i64 0, .int .i64 0, .slice X 0 xc, .bool false, .int .i64 0, .int .i64 0, .slice L n lc, .slice S ns sc, .int .i64 (D : Nat), .slice O no oc]) := by rw [hv6]; exact Lib.hid hS
            have HR6 : Hid (Blk v6 gR 51 #[.slice none 0 0, .slice none 0 0, .slice none 0 0, .slice none 0 0, .int .i64 0, .int .i64 0, .int .i64 0, .slice none 0 0, .int .i64 0, .int .i64 0, .int .i64 0, .slice none 0 0, .bool false, .int .i64 0, .int .i64 0, .slice none 0 0, .slice none 0 0, .int .i64 0, .slice none 0 0]) := by rw [hv6]; exact Lib.hid ((((((((HR_3.out.below E5)).far (p := ⟨gC, 0, none⟩) (show gR ≠ gC by omega) (.slice K1 22 c1)).far (p := ⟨gC, 1, none⟩) (show gR ≠ gC by omega) (.slice W1 0 d1)).far (p := ⟨gC, 2, none⟩) (show gR ≠ gC by omega) (.slice K2 22 c2)).far (p := ⟨gC, 3, none⟩) (show gR ≠ gC by omega) (.slice W2 0 d2)).far (p := ⟨gC, 18, none⟩) (show gR ≠ gC by omega) (.slice none 0 0)).far (p := ⟨gC, 17, none⟩) (show gR ≠ gC by omega) (.int .i64 (n : Nat)))
            have HT6 : Hid (On (Rg v1.heap.size v2.heap.size) (fun x => LgW x KA' WA' KB' WB' L' S' O' lc' m n ns no es D z) v6) := by rw [hv6]; exact Lib.hid ((((((((HT_3.out.below E5)).far (g := gC) (Rg.no (by omega)) 0 (.slice K1 22 c1)).far (g := gC) (Rg.no (by omega)) 1 (.slice W1 0 d1)).far (g := gC) (Rg.no (by omega)) 2 (.slice K2 22 c2)).far (g := gC) (Rg.no (by omega)) 3 (.slice W2 0 d2)).far (g := gC) (Rg.no (by omega)) 18 (.slice none 0 0)).far (g := gC) (Rg.no (by omega)) 17 (.int .i64 (n : Nat)))
            have HD6 : Hid (On (Rg v3.drew.heap.size v4.heap.size) (fun x => Dk x K1 22 W1 0 (diskL z es) [] ∧ Dk x K2 22 W2 0 (diskL z es) []) v6) := by rw [hv6]; exact Lib.hid ((((((((HD4.out.below b5)).far (g := gC) (Rg.no (by omega)) 0 (.slice K1 22 c1)).far (g := gC) (Rg.no (by omega)) 1 (.slice W1 0 d1)).far (g := gC) (Rg.no (by omega)) 2 (.slice K2 22 c2)).far (g := gC) (Rg.no (by omega)) 3 (.slice W2 0 d2)).far (g := gC) (Rg.no (by omega)) 18 (.slice none 0 0)).far (g := gC) (Rg.no (by omega)) 17 (.int .i64 (n : Nat)))
            have f6 : Below w.heap.size w v6 := by rw [hv6]; exact (((((((bthen f3 E5)).setCell (p := ⟨gC, 0, none⟩) (show w.heap.size ≤ gC by omega) (.slice K1 22 c1)).setCell (p := ⟨gC, 1, none⟩) (show w.heap.size ≤ gC by omega) (.slice W1 0 d1)).setCell (p := ⟨gC, 2, none⟩) (show w.heap.size ≤ gC by omega) (.slice K2 22 c2)).setCell (p := ⟨gC, 3, none⟩) (show w.heap.size ≤ gC by omega) (.slice W2 0 d2)).setCell (p := ⟨gC, 18, none⟩) (show w.heap.size ≤ gC by omega) (.slice none 0 0)).setCell (p := ⟨gC, 17, none⟩) (show w.heap.size ≤ gC by omega) (.int .i64 (n : Nat))
            have z6 : v5.heap.size ≤ v6.heap.size := by rw [hv6]; simp only [size_set]; exact Nat.le_refl _
            clear hv6 hS KC HD4 x0 w0 x1 w1 x2 w2 x3 w3 x17 w17 x18 w18
            have x12 := HN6.out.cell 12
            have ltN6 := HN6.out.lt
            go_upto_region 9 with fail
            clear x12
            go_wp2_with (first | (show wpList _ _ _ (Oper.mk _ (Op.load 51 _) _ _ _ _ :: _) _ _; refine wpList_load_row rfl 51 _ rfl gC rfl 51 #[.slice K1 22 c1, .slice W1 0 d1, .slice K2 22 c2, .slice W2 0 d2, .int .i64 0, .int .i64 0, .int .i64 0, .slice H' 0 hc', .int .i64 0, .int .i64 0, .int .i64 0, .slice X' 0 xc', .bool false, .int .i64 0, .int .i64 0, .slice L' n lc', .slice S' ns sc', .int .i64 (n : Nat), .slice none 0 0] (0, 0) _ HC6.out Tryz.underlying51 rfl (by kernel_rfl) ?_) | (show wpList _ _ _ (Oper.mk _ (Op.store _ _ _) _ _ _ _ :: _) _ _; refine wpList_store_row rfl 51 _ _ rfl gR #[.slice K1 22 c1, .slice W1 0 d1, .slice K2 22 c2, .slice W2 0 d2, .int .i64 0, .int .i64 0, .int .i64 0, .slice H' 0 hc', .int .i64 0, .int .i64 0, .int .i64 0, .slice X' 0 xc', .bool false, .int .i64 0, .int .i64 0, .slice L' n lc', .slice S' ns sc', .int .i64 (n : Nat), .slice none 0 0] rfl rfl 51 #[.slice none 0 0, .slice none 0 0, .slice none 0 0, .slice none 0 0, .int .i64 0, .int .i64 0, .int .i64 0, .slice none 0 0, .int .i64 0, .int .i64 0, .int .i64 0, .slice none 0 0, .bool false, .int .i64 0, .int .i64 0, .slice none 0 0, .slice none 0 0, .int .i64 0, .slice none 0 0] HR6.out (by kernel_rfl) rfl (by simp [Value.oneCell']) ?_))
            go_wp21
            refine bodyPost_ret (v := .tuple #[.agg #[.slice K1 22 c1, .slice W1 0 d1, .slice K2 22 c2, .slice W2 0 d2, .int .i64 0, .int .i64 0, .int .i64 0, .slice H' 0 hc', .int .i64 0, .int .i64 0, .int .i64 0, .slice X' 0 xc', .bool false, .int .i64 0, .int .i64 0, .slice L' n lc', .slice S' ns sc', .int .i64 (n : Nat), .slice none 0 0], .slice O' no oc']) (results_row_tmp rfl _ _ gR 51 #[.slice K1 22 c1, .slice W1 0 d1, .slice K2 22 c2, .slice W2 0 d2, .int .i64 0, .int .i64 0, .int .i64 0, .slice H' 0 hc', .int .i64 0, .int .i64 0, .int .i64 0, .slice X' 0 xc', .bool false, .int .i64 0, .int .i64 0, .slice L' n lc', .slice S' ns sc', .int .i64 (n : Nat), .slice none 0 0] (0, 0) _ _ rfl (HR6.out.setRow _) Tryz.underlying51 rfl (by kernel_rfl) rfl) rfl ?_
            have hT := (HT6.out.rowFar (g := gR) (Rg.no (by omega)) #[.slice K1 22 c1, .slice W1 0 d1, .slice K2 22 c2, .slice W2 0 d2, .int .i64 0, .int .i64 0, .int .i64 0, .slice H' 0 hc', .int .i64 0, .int .i64 0, .int .i64 0, .slice X' 0 xc', .bool false, .int .i64 0, .int .i64 0, .slice L' n lc', .slice S' ns sc', .int .i64 (n : Nat), .slice none 0 0]).sub (Rg.sub (c := w.heap.size) (d := (v6.setRow gR #[.slice K1 22 c1, .slice W1 0 d1, .slice K2 22 c2, .slice W2 0 d2, .int .i64 0, .int .i64 0, .int .i64 0, .slice H' 0 hc', .int .i64 0, .int .i64 0, .int .i64 0, .slice X' 0 xc', .bool false, .int .i64 0, .int .i64 0, .slice L' n lc', .slice S' ns sc', .int .i64 (n : Nat), .slice none 0 0]).heap.size) (by omega) (by rw [setRow_size]; omega))
            have hD := (HD6.out.rowFar (g := gR) (Rg.no (by omega)) #[.slice K1 22 c1, .slice W1 0 d1, .slice K2 22 c2, .slice W2 0 d2, .int .i64 0, .int .i64 0, .int .i64 0, .slice H' 0 hc', .int .i64 0, .int .i64 0, .int .i64 0, .slice X' 0 xc', .bool false, .int .i64 0, .int .i64 0, .slice L' n lc', .slice S' ns sc', .int .i64 (n : Nat), .slice none 0 0]).sub (Rg.sub (c := w.heap.size) (d := (v6.setRow gR #[.slice K1 22 c1, .slice W1 0 d1, .slice K2 22 c2, .slice W2 0 d2, .int .i64 0, .int .i64 0, .int .i64 0, .slice H' 0 hc', .int .i64 0, .int .i64 0, .int .i64 0, .slice X' 0 xc', .bool false, .int .i64 0, .int .i64 0, .slice L' n lc', .slice S' ns sc', .int .i64 (n : Nat), .slice none 0 0]).heap.size) (by omega) (by rw [setRow_size]; omega))
            refine ⟨K1, c1, W1, d1, K2, c2, W2, d2, H', hc', X', xc', L', lc', S', sc', none, 0, O', oc', rfl, ?_, Below.rowFar f6 (g := gR) (by omega) _⟩
            exact (hD.and hT).map (fun x h => ⟨⟨by rw [List.take_length, waitD_all]; exact h.1.1, by rw [List.take_length, waitD_all]; exact h.1.2, h.2.l, h.2.s, by rw [oweL_all]; exact Sl.nil _ _ _, (waitN_all es).symm, h.2.hn, h.2.hs, (oweN_all es).symm, h.2.hl, h.2.p, h.2.z, Nat.le_refl _, Nat.le_succ _⟩, h.2.o⟩)
          exact AllReadyH.nil
        exact AllReadyH.nil
      exact AllReadyH.nil
    exact AllReadyH.nil
  exact AllReadyH.nil
end Go.Proofs.YtbheflinchabgaaGreatDoor
namespace Go.Proofs.YtbheflinchabgaaGreatDoor
set_option linter.unusedSimpArgs false
set_option linter.unusedVariables false
attribute [local go_sem] n_lt2 n_lt3 n_lt4 n_le2 n_le3
open Go.RowKit
def Sx (p g6 g7 : Nat) : Nat → Prop := fun k => k ≠ p ∧ k ≠ g6 ∧ k ≠ g7
structure LX (w0 w : World) (p g6 g7 : Nat) (c6 c7 : Array Value) (P : World → Prop) : Prop where
  k6 : Blk w g6 35 c6
  k7 : Blk w g7 51 c7
  f : On (Sx p g6 g7) P w
  d : DC w p 80
  b : Below w0.heap.size w0 w
  o : w0.heap.size ≤ p ∧ p < g6 ∧ g6 < g7 ∧ g7 < w.heap.size
section
variable {w0 w w' : World} {p g6 g7 : Nat} {c6 c7 : Array Value} {P Q : World → Prop}
theorem LX.below (h : LX w0 w p g6 g7 c6 c7 P) (hb : Below w.heap.size w w') : LX w0 w' p g6 g7 c6 c7 P :=
  ⟨h.k6.below hb, h.k7.below hb, h.f.below hb, h.d.below hb (by have := h.o; omega), bthen h.b hb, by have := h.o; have := hb.size; omega⟩
theorem LX.alloc (h : LX w0 w p g6 g7 c6 c7 P) (o : Obj) : LX w0 (w.alloc o) p g6 g7 c6 c7 P := h.below ((Below.refl _ _).alloc (Nat.le_refl _) o)
theorem LX.drew (h : LX w0 w p g6 g7 c6 c7 P) : LX w0 w.drew p g6 g7 c6 c7 P := h.below (Below.drew (Below.refl _ _))
theorem LX.dice (h : LX w0 w p g6 g7 c6 c7 P) (hw : Wrote w w' (some ⟨p, 0, none⟩)) (hd : DC w' p 80) : LX w0 w' p g6 g7 c6 c7 P :=
  ⟨h.k6.wroteA hw (fun a ha => by have := h.o; cases ha; show p ≠ g6; omega), h.k7.wroteA hw (fun a ha => by have := h.o; cases ha; show p ≠ g7; omega), h.f.wrote hw (fun a ha hs => by cases ha; exact hs.1 rfl), hd,
   hw.below h.b (by have := h.o; omega) (fun a ha => by have := h.o; cases ha; show w0.heap.size ≤ p; omega), by have := h.o; have := hw.size; omega⟩
theorem LX.put6 (h : LX w0 w p g6 g7 c6 c7 P) (cs : Array Value) : LX w0 (w.setRow g6 cs) p g6 g7 cs c7 P :=
  ⟨h.k6.setRow cs, h.k7.rowFar (by have := h.o; omega) cs, h.f.rowFar (fun hs => hs.2.1 rfl) cs, h.d.below (Below.rowFar (Below.refl (p + 1) w) (by have := h.o; omega) cs) (by omega), Below.rowFar h.b (by have := h.o; omega) cs, by rw [setRow_size]; exact h.o⟩
theorem LX.put7 (h : LX w0 w p g6 g7 c6 c7 P) (cs : Array Value) : LX w0 (w.setRow g7 cs) p g6 g7 c6 cs P :=
  ⟨h.k6.rowFar (by have := h.o; omega) cs, h.k7.setRow cs, h.f.rowFar (fun hs => hs.2.2 rfl) cs, h.d.below (Below.rowFar (Below.refl (p + 1) w) (by have := h.o; omega) cs) (by omega), Below.rowFar h.b (by have := h.o; omega) cs, by rw [setRow_size]; exact h.o⟩
theorem LX.map (h : LX w0 w p g6 g7 c6 c7 P) (f : ∀ v, P v → Q v) : LX w0 w p g6 g7 c6 c7 Q := ⟨h.k6, h.k7, h.f.map f, h.d, h.b, h.o⟩
/-- A result's facts join. -/
theorem LX.add (h : LX w0 w p g6 g7 c6 c7 P) (hb : Below w.heap.size w w') {lo : Nat} (hl : w.heap.size ≤ lo) (hQ : On (Rg lo w'.heap.size) Q w') : LX w0 w' p g6 g7 c6 c7 (fun x => P x ∧ Q x) :=
  ⟨h.k6.below hb, h.k7.below hb, (h.f.below hb).and (hQ.sub (fun k hk => by have := h.o; have := hk.1; exact ⟨by omega, by omega, by omega⟩)), h.d.below hb (by have := h.o; omega), bthen h.b hb, by have := h.o; have := hb.size; omega⟩
theorem LX.ok (h : LX w0 w p g6 g7 c6 c7 P) : P w := h.f.out
end
end Go.Proofs.YtbheflinchabgaaGreatDoor
namespace Go.Proofs.YtbheflinchabgaaGreatDoor
set_option linter.unusedSimpArgs false
set_option linter.unusedVariables false
attribute [local go_sem] n_lt2 n_lt3 n_lt4 n_le2 n_le3
open Go.RowKit
theorem run_append_nil2 {P : Program} (w : World) (t ty e : TypeId) (i : TypeInfo) (ht : P.underlying t = some (.slice e)) (hi : P.info? e = some i) (B A : Option Addr) (q c0 c : Nat) (hq : q ≤ c0) (hB : B = none → q = 0 ∧ c0 = 0) :
    (Builtin.append_ #[t, t] ty #[.slice B q c0, .slice A 0 c]).run P w = .ok (.slice B q c0) w := by
  cases B with
  | none =>
    obtain ⟨rfl, rfl⟩ := hB rfl
    cases A <;> simp [Builtin.append_, run_underlying ht, sizeOf, typeInfo, hi, Builtin.lenOf, Builtin.firstCells, loadCells, loadCellsFrom, storeCells]
  | some b => cases A <;> simp [Builtin.append_, run_underlying ht, sizeOf, typeInfo, hi, Builtin.lenOf, Builtin.firstCells, loadCells, loadCellsFrom, storeCells, hq]
theorem wpList_append_nil2 {P : Program} {ops : Array Oper} {rest : List Oper} {o : Oper} {a : Act} {w : World} {Q : Exit → Act → World → Prop}
    (hg : o.guard = none) (s x : Operand) (t : TypeId) (hop : o.op = Op.call { callee := Callee.builtin Builtin.append, args := #[s, x], argTypes := #[t, t] })
    (e : TypeId) (i : TypeInfo) (h1 : P.underlying t = some (.slice e)) (h2 : P.info? e = some i) (B A : Option Addr) (q c0 c : Nat) (hs : a.eval s = .slice B q c0) (hx : a.eval x = .slice A 0 c) (hq : q ≤ c0) (hB : B = none → q = 0 ∧ c0 = 0)
    (h : wpList P ops Q rest (a.put o.dst (.slice B q c0)) w) : wpList P ops Q (o :: rest) a w :=
  wpList_plain hg fun _ hK2 => by
    have hrun := run_append_nil2 (P := P) w t o.type e i h1 h2 B A q c0 c hq hB
    unfold Oper.wp
    simp [execOp, hop, resolve, invoke, builtin, hs, hx, hrun, Result.andThen]
    exact hK2 _ _ h
theorem wpList_append_grow0 {P : Program} {ops : Array Oper} {rest : List Oper} {o : Oper} {a : Act} {w : World} {Q : Exit → Act → World → Prop}
    (hg : o.guard = none) (s x : Operand) (t : TypeId) (hop : o.op = Op.call { callee := Callee.builtin Builtin.append, args := #[s, x], argTypes := #[t, t] })
    (e : TypeId) (i : TypeInfo) (z : Value) (size bytes : Nat) (h1 : P.underlying t = some (.slice e)) (h2 : P.info? e = some i) (h3 : i.zero = some z) (h4 : i.size = size) (h5 : i.bytes = bytes) (h6 : z.cells.size = size) (h7 : 0 < size)
    (B : Option Addr) (hs : a.eval s = .slice B 0 0) (A : Option Addr) (m c : Nat) (zs : List Int) (hx : a.eval x = .slice A m c)
    (hm : 0 < m) (b0 : m ≤ maxLen) (b1 : m * bytes ≤ 140737488355328) (hS : Sl w size A m zs)
    (hK : ∀ g' c' w', Row w' w.heap.size e size (some ⟨g', 0, none⟩) m c' zs → Below w.heap.size w w' → m ≤ c' → wpList P ops Q rest (a.put o.dst (.slice (some ⟨g', 0, none⟩) m c')) w') :
    wpList P ops Q (o :: rest) a w :=
  wpList_plain hg fun K hK2 => by
    obtain ⟨b, off, rfl, hb, hc⟩ := hS.at_ hm
    have hl := hS.len
    have hw : Region.wanted o (yielded #[] a.tmps) = true := by simp [Region.wanted, hg]
    have hst := step_append_grows (P := P) (ops := #[]) (o := o) (a := a) (w := w) (K := K) (Q := Q) (E := True) hg s x t hop e i z size bytes h1 h2 h3 h4 h5 h6 h7 B 0 0 [] hs (by simp) (by simp) (fun _ _ j u hu => by simp at hu) ⟨b, off, none⟩ m c (ints zs) hx (by rw [ints_length]; exact hl)
      (slices_of hS rfl) (ints_oneCell' zs) (by omega) (by omega) (by rw [Nat.zero_add]; exact b1) (fun v' w' hown hgr => by
        have hB := grows_below hgr
        rcases hown.2 with ⟨_, h0⟩ | ⟨g', c', cur, rfl, hge, hg', hrest⟩
        · omega
        · rw [Nat.zero_add] at hown ⊢
          have hR : Row w' w.heap.size e size (some ⟨g', 0, none⟩) m c' zs := by
            rw [List.nil_append] at hown
            exact hown
          exact hK2 _ _ (hK g' c' w' hR hB (Row.cap_le hR).1))
    rw [if_pos hw] at hst
    exact hst
theorem LX.drewN {w0 w : World} {p g6 g7 : Nat} {c6 c7 : Array Value} {P : World → Prop} (h : LX w0 w p g6 g7 c6 c7 P) (q : Nat) : LX w0 (w.drewN q) p g6 g7 c6 c7 P := h.below (below_drewN (Below.refl _ _) q)
theorem LX.plus {w0 w : World} {p g6 g7 : Nat} {c6 c7 : Array Value} {P Q : World → Prop} (h : LX w0 w p g6 g7 c6 c7 P) (hQ : On (Sx p g6 g7) Q w) : LX w0 w p g6 g7 c6 c7 (fun x => P x ∧ Q x) := ⟨h.k6, h.k7, h.f.and hQ, h.d, h.b, h.o⟩
theorem ask_fresh (KA : Option Addr) (cA : Nat) (WA : Option Addr) (dA : Nat) (KB : Option Addr) (cB : Nat) (WB : Option Addr) (dB : Nat) (H : Option Addr) (hc : Nat) (X : Option Addr) (xc : Nat) (L : Option Addr) (lc : Nat) (S : Option Addr) (sc : Nat) (O : Option Addr) (oc : Nat) (n ns : Nat) (es : List En) (z : List Int) (ea eb et now sq : Int) (hsq : sq = (n : Int) + 1) (het : et = max now (timeL es)) (w : World) (hG : LgW w KA WA KB WB L S O lc 0 n ns 0 es n z) (hn7 : n < 8) (hp : entsP (es ++ [⟨sq, et, 4, sq, 1, ea, eb, 0, 0⟩])) (hti : inB now 0 1000000 = true) :
    Calls Tryz.prog 11 #[.agg #[.slice KA 22 cA, .slice WA 0 dA, .slice KB 22 cB, .slice WB 0 dB, .int .i64 0, .int .i64 0, .int .i64 0, .slice H 0 hc, .int .i64 0, .int .i64 0, .int .i64 0, .slice X 0 xc, .bool false, .int .i64 0, .int .i64 0, .slice L n lc, .slice S ns sc, .int .i64 (n : Nat), .slice O 0 oc], .agg #[.int .i64 4, .int .i64 sq, .int .i64 1, .int .i64 ea, .int .i64 eb, .int .i64 0, .int .i64 0], .int .i64 now] w (RetAsk0 w 1 (n + 1) 1 1 (es ++ [⟨sq, et, 4, sq, 1, ea, eb, 0, 0⟩]) n z) := by
  subst hsq
  exact askedOf_fresh KA cA WA dA KB cB WB dB H hc X xc L lc S sc O oc n ns es z ea eb et now het w hG hn7 hp hti
theorem ask_owed (KA : Option Addr) (cA : Nat) (WA : Option Addr) (dA : Nat) (KB : Option Addr) (cB : Nat) (WB : Option Addr) (dB : Nat) (H : Option Addr) (hc : Nat) (X : Option Addr) (xc : Nat) (L : Option Addr) (lc : Nat) (S : Option Addr) (sc : Nat) (O : Option Addr) (oc : Nat) (m n ns no D : Nat) (es : List En) (z : List Int) (ea eb now sq : Int) (hsq : sq = (n : Nat)) (w : World) (hG : LgW w KA WA KB WB L S O lc m n ns no es D z) (hD : D < n) (hak : askB 4 sq 1 ea eb 0 0 = true) (hti : inB now 0 1000000 = true) :
    Calls Tryz.prog 11 #[.agg #[.slice KA 22 cA, .slice WA m dA, .slice KB 22 cB, .slice WB m dB, .int .i64 0, .int .i64 0, .int .i64 0, .slice H 0 hc, .int .i64 0, .int .i64 0, .int .i64 0, .slice X 0 xc, .bool false, .int .i64 0, .int .i64 0, .slice L n lc, .slice S ns sc, .int .i64 (D : Nat), .slice O no oc], .agg #[.int .i64 4, .int .i64 sq, .int .i64 1, .int .i64 ea, .int .i64 eb, .int .i64 0, .int .i64 0], .int .i64 now] w (RetAsk0 w m n ns no es D z) := by
  subst hsq
  exact askedOf_owed KA cA WA dA KB cB WB dB H hc X xc L lc S sc O oc m n ns no D es z ea eb now w hG hD hak hti
theorem ask_done (KA : Option Addr) (cA : Nat) (WA : Option Addr) (dA : Nat) (KB : Option Addr) (cB : Nat) (WB : Option Addr) (dB : Nat) (H : Option Addr) (hc : Nat) (X : Option Addr) (xc : Nat) (L : Option Addr) (lc : Nat) (S : Option Addr) (sc : Nat) (O : Option Addr) (oc : Nat) (m n ns no D : Nat) (es : List En) (z : List Int) (ea eb now sq : Int) (hsq : sq = (n : Nat)) (w : World) (hG : LgW w KA WA KB WB L S O lc m n ns no es D z) (hD : D = n) (hak : askB 4 sq 1 ea eb 0 0 = true) (hti : inB now 0 1000000 = true) :
    Calls Tryz.prog 11 #[.agg #[.slice KA 22 cA, .slice WA m dA, .slice KB 22 cB, .slice WB m dB, .int .i64 0, .int .i64 0, .int .i64 0, .slice H 0 hc, .int .i64 0, .int .i64 0, .int .i64 0, .slice X 0 xc, .bool false, .int .i64 0, .int .i64 0, .slice L n lc, .slice S ns sc, .int .i64 (D : Nat), .slice O no oc], .agg #[.int .i64 4, .int .i64 sq, .int .i64 1, .int .i64 ea, .int .i64 eb, .int .i64 0, .int .i64 0], .int .i64 now] w (RetAsk1 w n ns no es z) := by
  subst hsq hD
  have hm : m = 0 := by rw [hG.hm, hG.hn]; exact waitN_all es
  subst hm
  exact askedOf_done KA cA WA dA KB cB WB dB H hc X xc L lc S sc O oc D ns no es z ea eb now w hG hak hti
/-- The acknowledgment of the request behind the first m. -/
def ackM (q m : Nat) : List Int := if q = 0 then [] else [4, (m : Int) + 1, (m : Int) + 1, (m : Int) + 1]
theorem putsB.snoc {wl : List Wt} (h : putsB wl) (a b : Int) (ha : 0 ≤ a ∧ a ≤ 9) (hb : 0 ≤ b ∧ b ≤ 999) : putsB (wl ++ [⟨1, 1, a, b, 0, 0, 0⟩]) := fun i hi => by
  rw [List.length_append, List.length_singleton] at hi
  by_cases h1 : i < wl.length
  · rw [getD_snoc_lt wl _ i h1]; exact h i h1
  · have : i = wl.length := by omega
    subst this
    rw [getD_snoc_eq]
    exact ⟨a, b, rfl, ha, hb⟩
theorem WT_snoc7 (wl : List Wt) (x : Wt) : WT wl ++ [x.k, x.o, x.a, x.b, x.c, x.d, x.y] = WT (wl ++ [x]) := by rw [WT_append]; rfl
/-- The entries hold the operations of the wants. -/
def esW (es : List En) (wl : List Wt) : Prop := es.length ≤ wl.length ∧ ∀ i, i < es.length → (es.getD i default).a = (wl.getD i default).a ∧ (es.getD i default).b = (wl.getD i default).b
theorem esW.nil (wl : List Wt) : esW [] wl := ⟨Nat.zero_le _, fun i hi => by cases hi⟩
theorem timeL_range {es : List En} (h : entsP es) : 0 ≤ timeL es ∧ timeL es ≤ 1000 := by
  unfold timeL
  split
  · omega
  · exact (h.2.1 (es.length - 1) (by omega)).2.2.2.2.2.2.2.2
theorem esW.snoc {es : List En} {wl : List Wt} {p : En} (h : esW es wl) (hl : es.length < wl.length) (ha : p.a = (wl.getD es.length default).a) (hb : p.b = (wl.getD es.length default).b) : esW (es ++ [p]) wl := by
  refine ⟨by rw [List.length_append, List.length_singleton]; omega, fun i hi => ?_⟩
  rw [List.length_append, List.length_singleton] at hi
  by_cases h1 : i < es.length
  · rw [show (es ++ [p]).getD i default = es.getD i default by simp [List.getD, List.getElem?_append_left h1]]
    exact h.2 i h1
  · have : i = es.length := by omega
    subst this
    rw [show (es ++ [p]).getD es.length default = p by simp [List.getD]]
    exact ⟨ha, hb⟩
theorem esW.take {es : List En} {wl : List Wt} (h : esW es wl) (k : Nat) : esW (es.take k) wl := by
  refine ⟨by rw [List.length_take]; have := h.1; omega, fun i hi => ?_⟩
  rw [List.length_take] at hi
  rw [show (es.take k).getD i default = es.getD i default by simp [List.getD, List.getElem?_take, show i < k by omega]]
  exact h.2 i (by omega)
/-- The entry of a fresh request. -/
theorem fresh_ok {es : List En} {m : Nat} {ea eb et now : Int} (h : entsP es) (hm : es.length = m) (h7 : m < 8) (het : et = max now (timeL es)) (hn : 0 ≤ now ∧ now ≤ 1000) (ha : 0 ≤ ea ∧ ea ≤ 9) (hb : 0 ≤ eb ∧ eb ≤ 999) : entsP (es ++ [⟨(m : Int) + 1, et, 4, (m : Int) + 1, 1, ea, eb, 0, 0⟩]) := by
  have ht := timeL_range h
  exact h.snoc (by omega) ⟨by rw [hm], rfl, by rw [hm], rfl, ha, hb, rfl, rfl, by show 0 ≤ et ∧ et ≤ 1000; omega⟩ (by show timeL es ≤ et; omega)
/-- The client and the node: m results, n entries of which D are durable. -/
def LSx (w0 w : World) (p g6 g7 : Nat) (A0 : Option Addr) (N : Nat) (wl : List Wt) (m k n ns no D : Nat) (es : List En) (z : List Int) : Prop := ∃ Ac cc Bc dc KA cA WA dA KB cB WB dB H hc X xc L lc S sc O oc,
  LX w0 w p g6 g7 #[.int .i64 4, .slice Ac N cc, .slice Bc m dc, .int .i64 (m : Nat)] #[.slice KA 22 cA, .slice WA k dA, .slice KB 22 cB, .slice WB k dB, .int .i64 0, .int .i64 0, .int .i64 0, .slice H 0 hc, .int .i64 0, .int .i64 0, .int .i64 0, .slice X 0 xc, .bool false, .int .i64 0, .int .i64 0, .slice L n lc, .slice S ns sc, .int .i64 (D : Nat), .slice O no oc] (fun x => Sl x 7 A0 N (WT wl) ∧ (Sl x 7 Ac N (WT wl) ∧ Sl x 4 Bc m (GT (gotsL m))) ∧ LgW x KA WA KB WB L S O lc k n ns no es D z)
/-- The acknowledgment of the request behind the first m lies there. -/
def AckC (w : World) (b o m : Nat) : Prop := w.rangeAt b o [.int .i64 4, .int .i64 ((m : Int) + 1), .int .i64 ((m : Int) + 1), .int .i64 ((m : Int) + 1)]
theorem AckC.of {w : World} {b o m : Nat} (h : Sl w 4 (some ⟨b, o, none⟩) 1 [4, (m : Int) + 1, (m : Int) + 1, (m : Int) + 1]) : AckC w b o m := by
  obtain ⟨b', off, hA, hb, hc⟩ := h.2 (by decide)
  injection hA with hA
  injection hA with h1 h2 h3
  subst h1 h2
  intro j v hj
  match j, hj with
  | 0, hj => cases hj; exact hc 0 (by decide)
  | 1, hj => cases hj; exact hc 1 (by decide)
  | 2, hj => cases hj; exact hc 2 (by decide)
  | 3, hj => cases hj; exact hc 3 (by decide)
theorem heard_cast {A B : Option Addr} {N c m d : Nat} {wl : List Wt} {w : World} {R : Ending → World → Prop} (h : Calls Tryz.prog 16 #[.agg #[.int .i64 4, .slice A N c, .slice B (m + 1) d, .int .i64 ((m + 1 : Nat) : Int)], .agg #[.int .i64 4, .int .i64 ((m + 1 : Nat) : Int), .int .i64 ((m + 1 : Nat) : Int), .int .i64 ((m + 1 : Nat) : Int)]] w R) :
    Calls Tryz.prog 16 #[.agg #[.int .i64 4, .slice A N c, .slice B (m + 1) d, .int .i64 ((m + 1 : Nat) : Int)], .agg #[.int .i64 4, .int .i64 ((m : Int) + 1), .int .i64 ((m : Int) + 1), .int .i64 ((m : Int) + 1)]] w R := by
  rw [show ((m : Int) + 1) = ((m + 1 : Nat) : Int) by omega]
  exact h
/-- At a round's start. -/
def RL2 (gk : Nat) (iv : Value) (wr w : World) (p g6 g7 : Nat) (A0 : Option Addr) (N : Nat) (wl : List Wt) : Prop := ∃ (r m n ns : Nat) (es : List En) (z : List Int), gk = 14 - r ∧ iv = .int .i64 (r : Nat) ∧ r ≤ 14 ∧ (m ≤ n ∧ n ≤ m + 1 ∧ n ≤ N) ∧ (8 ≤ r → m < N → r ≤ m + 8) ∧ Hid (esW es wl) ∧ Hid (LSx w wr p g6 g7 A0 N wl m 0 n ns 0 n es z)
/-- Behind the asks; behind the crash. -/
def RL3 (av : Value) (wr w : World) (X : Prop) (p g6 g7 : Nat) (A0 : Option Addr) (N : Nat) (wl : List Wt) (m : Nat) : Prop := ∃ (Aa : Option Addr) (q ca k n ns no D : Nat) (es : List En) (z : List Int), av = .slice Aa q ca ∧
  ((q = 0 ∧ ca = 0 ∧ (n = D ∨ (n = D + 1 ∧ n = m + 1))) ∨ (q = 1 ∧ n = m + 1 ∧ D = n ∧ 1 ≤ ca)) ∧ (m ≤ D ∧ m ≤ n ∧ n ≤ m + 1 ∧ n ≤ N) ∧ (X → n = m + 1 ∧ (q = 1 ∨ D < n)) ∧ (Aa = none → q = 0 ∧ ca = 0) ∧
  Hid (esW es wl) ∧ Hid (LSx w wr p g6 g7 A0 N wl m k n ns no D es z) ∧ Hid (On (Sx p g6 g7) (fun x => Sl x 4 Aa q (ackM q m)) wr)
end Go.Proofs.YtbheflinchabgaaGreatDoor
namespace Go.Proofs.YtbheflinchabgaaGreatDoor
set_option linter.unusedSimpArgs false
set_option linter.unusedVariables false
attribute [local go_sem] n_lt2 n_lt3 n_lt4 n_le2 n_le3
section
variable {P : Program} {ops : Array Oper} {Q : Exit → Act → World → Prop} {md : Region.Mode} {S : World → Prop} {e : Nat}
/-- Whatever order is picked from here on, and S holds behind every operation till number e has come up. -/
def wpAnyP (P : Program) (md : Region.Mode) (ops : Array Oper) (Q : Exit → Act → World → Prop) (S : World → Prop) (e : Nat) : Nat → Array Bool → Act → World → Prop
  | 0, listed, a, w => Region.ready md ops listed = [] ∧ Q .normal a w
  | fuel + 1, listed, a, w =>
    (Region.ready md ops listed = [] → Q .normal a w) ∧
    ∀ i ∈ Region.ready md ops listed, wpOp P ops Q i (fun a' w' => ((listed.setIfInBounds i true).getD e false = true ∨ S w') ∧ wpAnyP P md ops Q S e fuel (listed.setIfInBounds i true) a' w') a w
theorem wpAny_of_P : ∀ (fuel : Nat) (listed : Array Bool) (a : Act) (w : World), wpAnyP P md ops Q S e fuel listed a w → wpAny P md ops Q fuel listed a w
  | 0, _, _, _, h => h
  | fuel + 1, _, _, _, h => ⟨h.1, fun i hi => wpOp_mono (fun a' w' h' => wpAny_of_P fuel _ a' w' h'.2) (h.2 i hi)⟩
theorem wpAnyP_first {i : Nat} {oi : Oper} {v : Value} (hi : ops[i]? = some oi) (hsel : ∀ (j : Nat) (o : Oper) cs b, ops[j]? = some o → o.op ≠ .select cs b)
    (hQ : ∀ c a w, Q (.panic c) (a.put oi.dst v) w → Q (.panic c) a w) (hie : i ≠ e) (hwait : ∀ oe, ops[e]? = some oe → ∃ d ∈ oe.after, Region.binds md d = true ∧ d.on = i) :
    ∀ (fuel : Nat) (listed : Array Bool) (a : Act) (w : World),
      (∀ j oj, ops[j]? = some oj → j ≠ i → listed.getD j true = false → (∀ d ∈ oj.after, Region.binds md d = true → d.on ≠ i) → oi.apart ops oj = true) →
      i ∈ Region.ready md ops listed → YieldsIf P ops S oi v a → listed.getD e false = false → S w →
      wpAnyP P md ops Q S e fuel (listed.setIfInBounds i true) (a.put oi.dst v) w → wpAnyP P md ops Q S e (fuel + 1) listed a w := by
  intro fuel
  induction fuel with
  | zero =>
    intro listed a w _ hr hy hL hS H
    refine ⟨fun h => (by rw [h] at hr; cases hr), fun j hj => ?_⟩
    by_cases hji : j = i
    · subst hji; exact hy.wpOp hi hS ⟨.inr hS, H⟩
    · have := ready_mono hj hji
      rw [H.1] at this
      cases this
  | succ fuel ih =>
    intro listed a w hfree hr hy hL hS H
    refine ⟨fun h => (by rw [h] at hr; cases hr), fun j hj => ?_⟩
    by_cases hji : j = i
    · subst hji; exact hy.wpOp hi hS ⟨.inr hS, H⟩
    · have h1 := H.2 j (ready_mono hj hji)
      obtain ⟨hjun, oj, hoj, hall⟩ := mem_ready.1 hj
      have hnot : ∀ d ∈ oj.after, Region.binds md d = true → d.on ≠ i := fun d hd hb heq => by
        have h1 := hall d hd hb
        have h0 := (mem_ready.1 hr).1
        rw [heq] at h1
        rcases Nat.lt_or_ge i listed.size with h' | h'
        · simp [h'] at h0 h1; rw [h0] at h1; cases h1
        · simp [Array.getElem?_eq_none h'] at h1
      have hje : j ≠ e := fun h => by
        subst h
        obtain ⟨d, hd, hb, hon⟩ := hwait oj hoj
        exact hnot d hd hb hon
      have hL2 : (listed.setIfInBounds j true).getD e false = false := by rw [getD_set_ne false hje]; exact hL
      have hL3 : ((listed.setIfInBounds i true).setIfInBounds j true).getD e false = false := by rw [getD_set_ne false hje, getD_set_ne false hie]; exact hL
      have h2 := wpOp_putIf hoj (hfree j oj hoj hji hjun hnot) (fun cs b => hsel i oi cs b hi) (fun cs b => hsel j oj cs b hoj) hQ hy h1
      have hfree' : ∀ k ok, ops[k]? = some ok → k ≠ i → (listed.setIfInBounds j true).getD k true = false →
          (∀ d ∈ ok.after, Region.binds md d = true → d.on ≠ i) → oi.apart ops ok = true := fun k ok hk hki hun hno => by
        refine hfree k ok hk hki ?_ hno
        by_cases hjk : j = k
        · subst hjk; exact hjun
        · rw [getD_set_ne true hjk] at hun; exact hun
      refine wpOp_mono (fun a' w' h3 => ?_) h2
      have hS' : S w' := by
        rcases h3.2.1 with h4 | h4
        · rw [hL3] at h4; cases h4
        · exact h4
      refine ⟨.inr hS', ih (listed.setIfInBounds j true) a' w' hfree' (ready_mono hr (Ne.symm hji)) h3.1 hL2 hS' ?_⟩
      rw [Array.setIfInBounds_comm _ _ hji]
      exact h3.2.2
theorem wpAnyP_first0 {i : Nat} {oi : Oper} {v : Value} (hi : ops[i]? = some oi) (hsel : ∀ (j : Nat) (o : Oper) cs b, ops[j]? = some o → o.op ≠ .select cs b)
    (hQ : ∀ c a w, Q (.panic c) (a.put oi.dst v) w → Q (.panic c) a w) (hie : i ≠ e) :
    ∀ (fuel : Nat) (listed : Array Bool) (a : Act) (w : World),
      (∀ j oj, ops[j]? = some oj → j ≠ i → listed.getD j true = false → (∀ d ∈ oj.after, Region.binds md d = true → d.on ≠ i) → oi.apart ops oj = true) →
      i ∈ Region.ready md ops listed → YieldsIf P ops (fun _ => True) oi v a → (listed.getD e false = true ∨ S w) →
      wpAnyP P md ops Q S e fuel (listed.setIfInBounds i true) (a.put oi.dst v) w → wpAnyP P md ops Q S e (fuel + 1) listed a w := by
  intro fuel
  induction fuel with
  | zero =>
    intro listed a w _ hr hy hS H
    refine ⟨fun h => (by rw [h] at hr; cases hr), fun j hj => ?_⟩
    by_cases hji : j = i
    · subst hji; exact hy.wpOp hi trivial ⟨by rw [getD_set_ne false hie]; exact hS, H⟩
    · have := ready_mono hj hji
      rw [H.1] at this
      cases this
  | succ fuel ih =>
    intro listed a w hfree hr hy hS H
    refine ⟨fun h => (by rw [h] at hr; cases hr), fun j hj => ?_⟩
    by_cases hji : j = i
    · subst hji; exact hy.wpOp hi trivial ⟨by rw [getD_set_ne false hie]; exact hS, H⟩
    · have h1 := H.2 j (ready_mono hj hji)
      obtain ⟨hjun, oj, hoj, hall⟩ := mem_ready.1 hj
      have hnot : ∀ d ∈ oj.after, Region.binds md d = true → d.on ≠ i := fun d hd hb heq => by
        have h1 := hall d hd hb
        have h0 := (mem_ready.1 hr).1
        rw [heq] at h1
        rcases Nat.lt_or_ge i listed.size with h' | h'
        · simp [h'] at h0 h1; rw [h0] at h1; cases h1
        · simp [Array.getElem?_eq_none h'] at h1
      have h2 := wpOp_putIf hoj (hfree j oj hoj hji hjun hnot) (fun cs b => hsel i oi cs b hi) (fun cs b => hsel j oj cs b hoj) hQ hy h1
      have hfree' : ∀ k ok, ops[k]? = some ok → k ≠ i → (listed.setIfInBounds j true).getD k true = false →
          (∀ d ∈ ok.after, Region.binds md d = true → d.on ≠ i) → oi.apart ops ok = true := fun k ok hk hki hun hno => by
        refine hfree k ok hk hki ?_ hno
        by_cases hjk : j = k
        · subst hjk; exact hjun
        · rw [getD_set_ne true hjk] at hun; exact hun
      refine wpOp_mono (fun a' w' h3 => ?_) h2
      have hS' : (listed.setIfInBounds j true).getD e false = true ∨ S w' := by
        rcases h3.2.1 with h4 | h4
        · left
          rw [Array.setIfInBounds_comm _ _ (Ne.symm hji), getD_set_ne false hie] at h4
          exact h4
        · exact .inr h4
      refine ⟨hS', ih (listed.setIfInBounds j true) a' w' hfree' (ready_mono hr (Ne.symm hji)) h3.1 hS' ?_⟩
      rw [Array.setIfInBounds_comm _ _ hji]
      exact h3.2.2
theorem wpAnyP_take0 {i : Nat} {oi : Oper} {v : Value} {fuel : Nat} {listed : Array Bool} {a : Act} {w : World} (hi : ops[i]? = some oi)
    (hs : Region.noSelect ops = true) (hf : Region.free md ops listed i = true) (hr : (Region.ready md ops listed).contains i = true) (hie : i ≠ e)
    (hQ : ∀ c a w, Q (.panic c) (a.put oi.dst v) w → Q (.panic c) a w) (hy : YieldsIf P ops (fun _ => True) oi v a) (hS : S w)
    (h : wpAnyP P md ops Q S e fuel (listed.setIfInBounds i true) (a.put oi.dst v) w) : wpAnyP P md ops Q S e (fuel + 1) listed a w :=
  wpAnyP_first0 hi (Region.noSelect_spec hs) hQ hie fuel listed a w (Region.free_spec hi hf) (by simpa using hr) hy (.inr hS) h
def waitsB (md : Region.Mode) (ops : Array Oper) (i e : Nat) : Bool := match ops[e]? with
  | some oe => oe.after.toList.any fun d => Region.binds md d && d.on == i
  | none => true
theorem waitsB_spec {i : Nat} (h : waitsB md ops i e = true) : ∀ oe, ops[e]? = some oe → ∃ d ∈ oe.after, Region.binds md d = true ∧ d.on = i := fun oe ho => by
  unfold waitsB at h
  rw [ho] at h
  simp only [List.any_eq_true, Bool.and_eq_true, beq_iff_eq] at h
  obtain ⟨d, hd, h1, h2⟩ := h
  exact ⟨d, by simpa using hd, h1, h2⟩
theorem wpAnyP_take {i : Nat} {oi : Oper} {v : Value} {fuel : Nat} {listed : Array Bool} {a : Act} {w : World} (hi : ops[i]? = some oi)
    (hs : Region.noSelect ops = true) (hf : Region.free md ops listed i = true) (hr : (Region.ready md ops listed).contains i = true) (hie : i ≠ e) (hw : waitsB md ops i e = true) (hL : listed.getD e false = false)
    (hQ : ∀ c a w, Q (.panic c) (a.put oi.dst v) w → Q (.panic c) a w) (hy : YieldsIf P ops S oi v a) (hS : S w)
    (h : wpAnyP P md ops Q S e fuel (listed.setIfInBounds i true) (a.put oi.dst v) w) : wpAnyP P md ops Q S e (fuel + 1) listed a w :=
  wpAnyP_first hi (Region.noSelect_spec hs) hQ hie (waitsB_spec hw) fuel listed a w (Region.free_spec hi hf) (by simpa using hr) hy hL hS h
/-- From here on nothing more is taken by S. -/
theorem wpAnyP_step {rs : List Nat} {fuel : Nat} {listed : Array Bool} {a : Act} {w : World} (hr : Region.ready md ops listed = rs) (hne : rs ≠ [])
    (h : ∀ i ∈ rs, wpOp P ops Q i (fun a' w' => ((listed.setIfInBounds i true).getD e false = true ∨ S w') ∧ wpAnyP P md ops Q S e fuel (listed.setIfInBounds i true) a' w') a w) : wpAnyP P md ops Q S e (fuel + 1) listed a w :=
  ⟨fun h0 => absurd (hr ▸ h0) hne, hr ▸ h⟩
/-- One operation alone may come up. -/
theorem wpAnyP_one {i : Nat} {o : Oper} {fuel : Nat} {listed : Array Bool} {a : Act} {w : World} (hr : Region.ready md ops listed = [i]) (ho : ops[i]? = some o)
    (h : ∀ K : Act → World → Prop, Shut (∀ a w, ((listed.setIfInBounds i true).getD e false = true ∨ S w) → wpAnyP P md ops Q S e fuel (listed.setIfInBounds i true) a w → K a w) → if Region.wanted o (yielded ops a.tmps) = true then Oper.wp P o a w K Q else K (a.put o.dst undef) w) :
    wpAnyP P md ops Q S e (fuel + 1) listed a w :=
  wpAnyP_step hr (by simp) fun j hj => by
    obtain rfl := List.mem_singleton.1 hj
    exact wpOp_step ho (fun K' hK => h K' (fun a w hS hW => hK a w ⟨hS, hW⟩))
theorem wpAnyP_done {listed : Array Bool} {a : Act} {w : World} (hr : Region.ready md ops listed = []) (h : Q .normal a w) : ∀ fuel, wpAnyP P md ops Q S e fuel listed a w
  | 0 => ⟨hr, h⟩
  | _ + 1 => ⟨fun _ => h, by rw [hr]; simp⟩
theorem wp_region_P {id : Nat} {a : Act} {w : World} (S : World → Prop) (e : Nat) (hm : P.follows .mixedOrders = true) (hS : S w.drew)
    (h : S w.drew → wpAnyP P .any ops Q S e ops.size (Array.replicate ops.size false) a w.drew) : (Code.region id ops true).wp P Q a w :=
  wp_region_any hm (wpAny_of_P _ _ _ _ (h hS))
end
end Go.Proofs.YtbheflinchabgaaGreatDoor

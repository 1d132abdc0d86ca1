/- The walk of the law FnLeaseOne. -/
import Derived.Test.YtgpllffiahccjaaDice
import Derived.Test.YtgpllffiahccjaaLease3
import Derived.Test.YtgpllffiahccjaaLease5
import Derived.Test.YtgpllffiahccjaaNm
namespace Go.Proofs.Ytgpllffiahccjaa
set_option linter.unusedSimpArgs false
set_option linter.unusedVariables false
attribute [local go_sem] n_lt2 n_lt3 n_lt4 n_le2 n_le3
open Go.RowKit
attribute [local go_sem] Ext.cell Ext.frozen

theorem Blk.wrote {w w' : World} {g p : Nat} {e : TypeId} {cs : Array Value} (h : Blk w g e cs) (hw : Wrote w w' (some ⟨p, 0, none⟩)) (hne : g ≠ p) : Blk w' g e cs :=
  (World.grownBy.block hw g h.lt (by simpa using hne)).trans h
theorem Dice.below {w w' : World} {p D n cap : Nat} {A : Option Addr} (h : Dice w p D A n cap) (hb : Below w.heap.size w w') : Dice w' p D A n cap := by
  obtain ⟨i, x, hi, K⟩ := h
  exact ⟨i, x, hi, K.below hb⟩
theorem Dice.alloc {w : World} {p D n cap : Nat} {A : Option Addr} (h : Dice w p D A n cap) (o : Obj) : Dice (w.alloc o) p D A n cap := by
  obtain ⟨i, x, hi, K⟩ := h
  exact ⟨i, x, hi, K.alloc o⟩
theorem Dice.far {w : World} {p D n cap : Nat} {A : Option Addr} (h : Dice w p D A n cap) {q : Addr} (hq : p ≠ q.block) (u : Value) : Dice (w.setCell q u) p D A n cap := by
  obtain ⟨i, x, hi, K⟩ := h
  exact ⟨i, x, hi, K.far hq u⟩
theorem Dice.lt {w : World} {p D n cap : Nat} {A : Option Addr} (h : Dice w p D A n cap) : p < w.heap.size := by
  obtain ⟨i, x, hi, K⟩ := h
  exact K.lt
theorem whoB_iff (x : Int) : whoB x = true ↔ x = 2 ∨ x = 3 := by unfold whoB; simp
theorem lease_pos {h e u : Int} (hl : leaseB h e u = true) : (h = 0 ∧ e = 0 ∧ u = 0) ∨ ((h = 2 ∨ h = 3) ∧ 1 ≤ e ∧ e ≤ 1000 ∧ 1 ≤ u ∧ u ≤ 1001000) := by
  unfold leaseB at hl
  simp only [Bool.or_eq_true, Bool.and_eq_true, decide_eq_true_eq, inB_iff, whoB_iff] at hl
  rcases hl with hl | hl
  · exact .inl hl
  · exact .inr ⟨hl.1, hl.2.1.1, hl.2.1.2, hl.2.2.1, hl.2.2.2⟩
theorem lease_mk {h e u : Int} (h1 : h = 2 ∨ h = 3) (h2 : 1 ≤ e ∧ e ≤ 1000) (h3 : 1 ≤ u ∧ u ≤ 1001000) : leaseB h e u = true := by
  unfold leaseB
  rw [(whoB_iff h).2 h1, (inB_iff _ _ _).2 h2, (inB_iff _ _ _).2 h3]
  simp
theorem holds_mk {h e u who ep t : Int} (h1 : leaseB h e u = true) (h2 : 0 ≤ t ∧ t ≤ 1000000) (h3 : h ≠ 0) (h4 : h = who) (h5 : e = ep) (h6 : t < u) : holdsB h e u who ep t = true := by
  unfold holdsB
  rw [h1, (inB_iff _ _ _).2 h2, decide_eq_false h3, decide_eq_true h4, decide_eq_true h5, decide_eq_true h6]
  rfl
theorem holds_other {h e u who ep t : Int} (h4 : h ≠ who) : holdsB h e u who ep t = false := by
  unfold holdsB
  rw [decide_eq_false h4]
  simp
theorem left_mk {h e u t : Int} (h1 : leaseB h e u = true) (h2 : 0 ≤ t ∧ t ≤ 1000000) (h3 : h ≠ 0) (h6 : t < u) : leftI h e u t = u - t := by
  unfold leftI freeB
  rw [h1, (inB_iff _ _ _).2 h2, decide_eq_false h3, decide_eq_false (by omega : ¬ u ≤ t)]
  rfl
theorem free_mk {h e u t : Int} (h1 : leaseB h e u = true) (h2 : 0 ≤ t ∧ t ≤ 1000000) (h3 : freeB h u t = true) : freeAtB h e u t = true := by
  unfold freeAtB
  rw [h1, (inB_iff _ _ _).2 h2, h3]
  rfl

set_option maxRecDepth 100000 in
set_option maxHeartbeats 8000000 in
theorem law_LeaseOne (A : Option Addr) (n cap : Nat) (bs : List Int) (w : World) (hS : SlB w A n bs) (hnc : n ≤ cap) (hcm : cap ≤ maxLen) :
    Calls Try.prog 3 #[.slice A n cap] w fun e' w' => e' = .returned (.bool true) ∧ Below w.heap.size w w' := by
  have hm0 : n ≤ maxLen := Nat.le_trans hnc hcm
  by_cases hbig : 4096 < n
  · have hd : decide (4096 < n) = true := decide_eq_true hbig
    have cb := big_any A n cap w hm0
    rw [hd] at cb
    clear hd hbig
    go_enter Try.func3, Try.ntmps3
    go_wp2_with fail
    refine cb.mono ?_
    rintro e w' ⟨rfl, rfl⟩
    go_wp2
    go_ret
    exact ⟨rfl, Below.refl _ _⟩
  · have hd : decide (4096 < n) = false := decide_eq_false hbig
    have cb := big_any A n cap w hm0
    rw [hd] at cb
    have HS := Lib.hid hS
    clear hd hS
    go_enter Try.func3, Try.ntmps3
    go_wp2_with fail
    refine cb.mono ?_
    rintro e w' ⟨rfl, rfl⟩
    go_wp2_with fail
    refine (roll_any A n cap bs 16 w HS.out (by omega) (by omega)).mono ?_
    rintro e w1 ⟨rfl, D1, b1⟩
    obtain ⟨p, hp⟩ : ∃ p, p = w.heap.size := ⟨_, rfl⟩
    rw [← hp] at D1 ⊢
    have HP := Lib.hid hp
    clear hp
    go_wp2_with fail
    refine calls_named ?_
    rintro w2 hw2
    have L2 : Blk w2 w1.heap.size 28 #[.int .i64 0, .int .i64 0, .int .i64 0] := by rw [hw2]; exact Blk.new _ _ _
    have D2 : Dice w2 p 89 A n cap := by rw [hw2]; exact D1.alloc _
    have f2 : Below w.heap.size w w2 := by rw [hw2]; exact b1.alloc b1.size _
    have hplw : w.heap.size ≤ w1.heap.size := b1.size
    have hpl : p ≠ w1.heap.size := by have := D1.lt; omega
    clear hw2
    generalize w1.heap.size = pl at L2 hplw hpl ⊢
    have hA : ∀ wr : World, 0 < n → ∀ a, A = some a → a.block ≠ p := fun _ hn0 a ha => by
      obtain ⟨b, off, hA', hb, _⟩ := HS.out.2.2 hn0
      rw [ha] at hA'
      obtain rfl := Option.some.inj hA'
      have := HP.out
      show b ≠ p
      omega
    have HA := Lib.hid hA
    have hpw : ∀ y : Addr, some (⟨p, 0, none⟩ : Addr) = some y → w.heap.size ≤ y.block := fun y hy => by
      obtain rfl := Option.some.inj hy
      exact Nat.le_of_eq HP.out.symm
    have HPW := Lib.hid hpw
    clear hA hpw
    refine (below_dice p n cap A bs 14 w2 D2 (HS.out.below f2) hm0 (by decide) (HA.out w2)).mono ?_
    rintro e w3 ⟨x, rfl, hx0, hx1, D3, W3⟩
    have L3 := L2.wrote W3 (Ne.symm hpl)
    have f3 := W3.below f2 f2.size HPW.out
    have HL3 := Lib.hid L3
    clear L2 D2 f2 W3 L3 D1 b1
    go_wp2
    go_loopw [5, 6] (fun tv nv wr => ∃ (k m : Nat) (t h e u : Int), k + m ≤ 16 ∧ tv = .int .i64 t ∧ nv = .int .i64 (m : Nat) ∧ 0 ≤ t ∧ t ≤ 9 * k ∧ Hid (leaseB h e u = true) ∧ e ≤ k ∧ Dice wr p 89 A n cap ∧ Blk wr pl 28 #[.int .i64 h, .int .i64 e, .int .i64 u] ∧ Below w.heap.size w wr) (fun _ nv _ => (intOf nv).toNat)
    case atStart => exact ⟨0, (2 + x).toNat, 0, 0, 0, 0, by omega, rfl, congrArg (Value.int .i64) (by omega), by omega, by omega, Lib.hid (by decide), by omega, D3, HL3.out, f3⟩
    case round =>
      obtain ⟨k, m, t, h, e, u, hkm, rfl, rfl, ht0, ht1, hl, he, D, L, hbl⟩ := hrel
      by_cases hm : 0 < m
      · have hm' : (0 : Int) < (m : Int) := by omega
        have lp := Lib.hid (lease_pos hl.out)
        go_wp2_with fail
        refine (below_dice p n cap A bs 9 wr D (HS.out.below hbl) hm0 (by decide) (HA.out wr)).mono ?_
        rintro e1 w1 ⟨x1, rfl, hy0, hy1, D1, W1⟩
        have L1 := L.wrote W1 (Ne.symm hpl)
        have f1 := W1.below hbl hbl.size HPW.out
        clear D L hbl W1
        go_wp2_with fail
        refine (below_dice p n cap A bs 2 w1 D1 (HS.out.below f1) hm0 (by decide) (HA.out w1)).mono ?_
        rintro e1 w2 ⟨x2, rfl, hz0, hz1, D2, W2⟩
        have L2 := L1.wrote W2 (Ne.symm hpl)
        have f2 := W2.below f1 f1.size HPW.out
        clear D1 L1 f1 W2
        go_wp2_with fail
        refine (below_dice p n cap A bs 20 w2 D2 (HS.out.below f2) hm0 (by decide) (HA.out w2)).mono ?_
        rintro e1 w3 ⟨x3, rfl, hv0, hv1, D_3, W3⟩
        have L_3 := L2.wrote W3 (Ne.symm hpl)
        have F_3 := W3.below f2 f2.size HPW.out
        clear D2 L2 f2 W3
        obtain ⟨who, hwho⟩ : ∃ who, who = 2 + x2 := ⟨_, rfl⟩
        obtain ⟨long, hlong⟩ : ∃ long, long = 1 + x3 := ⟨_, rfl⟩
        obtain ⟨ti, hti⟩ : ∃ ti, ti = t + x1 := ⟨_, rfl⟩
        have hw1 : 2 ≤ who ∧ who ≤ 3 := by omega
        have hl1 : 1 ≤ long ∧ long ≤ 20 := by omega
        have hti0 : 0 ≤ ti := by omega
        have hti1 : ti ≤ 9 * k + 8 := by omega
        have HE := Lib.hid (And.intro hwho (And.intro hlong hti))
        clear hwho hlong hti
        have hgo : Hid (grantL h e u who ti long = grantL h e u who ti long) := rfl
        have hwB : whoB who = true := (whoB_iff who).2 (by omega)
        have hpre : (whoB who && (inB ti 0 1000000 && inB long 1 1000)) = true := by rw [hwB, (inB_iff _ _ _).2 ⟨hti0, by omega⟩, (inB_iff _ _ _).2 ⟨hl1.1, by omega⟩]; rfl
        have HPR := Lib.hid hpre
        clear hpre hwB hgo
        obtain ⟨hw2, hw3⟩ := hw1
        obtain ⟨hl2, hl3⟩ := hl1
        have E1 : 2 + x2 = who := HE.out.1.symm
        have E2 : 1 + x3 = long := HE.out.2.1.symm
        have E3 : t + x1 = ti := HE.out.2.2.symm
        clear hz0 hz1 hv0 hv1 hy0 hy1 ht0 ht1
        by_cases hhw : h = who
        · -- the holder asks again
          have hb := lp.out
          obtain ⟨mx, hmx⟩ : ∃ mx, mx = max u (ti + long) := ⟨_, rfl⟩
          have hm1 : 1 ≤ mx ∧ mx ≤ 1001000 := by omega
          have hm2 : ti + long ≤ mx := by omega
          have hn1 : leaseB h e mx = true := lease_mk (by omega) (by omega) hm1
          have hg := Lib.hid (show grantL h e u who ti long = ((h, e, mx), true) by unfold grantL; rw [if_pos hl.out, if_pos HPR.out, if_pos hhw, hmx])
          have hnl := Lib.hid hn1
          have hh1 := Lib.hid (holds_mk (who := who) (ep := e) (t := ti) hn1 (by omega) (by omega) hhw rfl (by omega))
          have hh2 := Lib.hid (holds_other (e := e) (u := mx) (ep := e) (t := ti) (show h ≠ 5 - who by omega))
          have hh3 := Lib.hid (left_mk (t := ti) hn1 (by omega) (by omega) (by omega))
          have hle : ¬ mx - ti < long := by omega
          have hle' : decide (mx - ti < long) = false := decide_eq_false hle
          have hhw' : (h == who) = true := by simpa using hhw
          have hhn : (h != who) = false := by simp [hhw]
          have hmxi : 0 ≤ mx := by omega
          have hei : 0 ≤ e := by omega
          have HW := Lib.hid hhw
          clear hb hmx hn1 hm2 lp hhw
          have lt_L := L_3.lt
          have r_L0 : w3.cell? ⟨pl, 0, none⟩ = some (.int .i64 (h)) := L_3.cell 0
          have r_L1 : w3.cell? ⟨pl, 1, none⟩ = some (.int .i64 (e)) := L_3.cell 1
          have r_L2 : w3.cell? ⟨pl, 2, none⟩ = some (.int .i64 (u)) := L_3.cell 2
          have HL_3 := Lib.hid L_3
          have HD_3 := Lib.hid D_3
          have HF_3 := Lib.hid F_3
          clear L_3 D_3
          have cg := Granted_any (h) (e) (u) who ti long w3
          rw [hg.out] at cg
          go_wp2_with fail
          refine (cg).mono ?_
          rintro e w4 ⟨rfl, b4⟩
          have L_4 := HL_3.out.below b4
          have D_4 := HD_3.out.below b4
          have F_4 := bthen HF_3.out b4
          clear lt_L r_L0 r_L1 r_L2
          clear HL_3 HD_3 HF_3 b4
          have lt_L := L_4.lt
          have r_L0 : w4.cell? ⟨pl, 0, none⟩ = some (.int .i64 (h)) := L_4.cell 0
          have r_L1 : w4.cell? ⟨pl, 1, none⟩ = some (.int .i64 (e)) := L_4.cell 1
          have r_L2 : w4.cell? ⟨pl, 2, none⟩ = some (.int .i64 (u)) := L_4.cell 2
          have HL_4 := Lib.hid L_4
          have HD_4 := Lib.hid D_4
          have HF_4 := Lib.hid F_4
          clear L_4 D_4
          go_wp2_with fail
          refine calls_named ?_
          rintro w5 hw5
          have L_5 : Blk w5 pl 28 #[.int .i64 h, .int .i64 e, .int .i64 u] := by rw [hw5]; exact HL_4.out.alloc _
          have N_5 : Blk w5 w4.heap.size 28 #[.int .i64 h, .int .i64 e, .int .i64 mx] := by rw [hw5]; exact Blk.new _ _ _
          have D_5 : Dice w5 p 89 A n cap := by rw [hw5]; exact HD_4.out.alloc _
          have F_5 : Below w.heap.size w w5 := by rw [hw5]; exact HF_4.out.alloc HF_4.out.size _
          clear hw5
          clear lt_L r_L0 r_L1 r_L2
          clear HL_4 HD_4 HF_4
          have lt_L := L_5.lt
          have r_L0 : w5.cell? ⟨pl, 0, none⟩ = some (.int .i64 (h)) := L_5.cell 0
          have r_L1 : w5.cell? ⟨pl, 1, none⟩ = some (.int .i64 (e)) := L_5.cell 1
          have r_L2 : w5.cell? ⟨pl, 2, none⟩ = some (.int .i64 (u)) := L_5.cell 2
          have lt_N := N_5.lt
          have r_N0 : w5.cell? ⟨w4.heap.size, 0, none⟩ = some (.int .i64 (h)) := N_5.cell 0
          have r_N1 : w5.cell? ⟨w4.heap.size, 1, none⟩ = some (.int .i64 (e)) := N_5.cell 1
          have r_N2 : w5.cell? ⟨w4.heap.size, 2, none⟩ = some (.int .i64 (mx)) := N_5.cell 2
          have HL_5 := Lib.hid L_5
          have HN_5 := Lib.hid N_5
          have HD_5 := Lib.hid D_5
          have HF_5 := Lib.hid F_5
          clear L_5 N_5 D_5
          have cg2 := specGranted_any (h) (e) (u) who ti long w5
          rw [hg.out] at cg2
          refine (cg2).mono ?_
          rintro e w6 ⟨rfl, b6⟩
          have L_6 := HL_5.out.below b6
          have N_6 := HN_5.out.below b6
          have D_6 := HD_5.out.below b6
          have F_6 := bthen HF_5.out b6
          clear lt_L r_L0 r_L1 r_L2 lt_N r_N0 r_N1 r_N2
          clear HL_5 HN_5 HD_5 HF_5 b6
          have lt_L := L_6.lt
          have r_L0 : w6.cell? ⟨pl, 0, none⟩ = some (.int .i64 (h)) := L_6.cell 0
          have r_L1 : w6.cell? ⟨pl, 1, none⟩ = some (.int .i64 (e)) := L_6.cell 1
          have r_L2 : w6.cell? ⟨pl, 2, none⟩ = some (.int .i64 (u)) := L_6.cell 2
          have lt_N := N_6.lt
          have r_N0 : w6.cell? ⟨w4.heap.size, 0, none⟩ = some (.int .i64 (h)) := N_6.cell 0
          have r_N1 : w6.cell? ⟨w4.heap.size, 1, none⟩ = some (.int .i64 (e)) := N_6.cell 1
          have r_N2 : w6.cell? ⟨w4.heap.size, 2, none⟩ = some (.int .i64 (mx)) := N_6.cell 2
          have HL_6 := Lib.hid L_6
          have HN_6 := Lib.hid N_6
          have HD_6 := Lib.hid D_6
          have HF_6 := Lib.hid F_6
          clear L_6 N_6 D_6
          go_wp2_with fail
          refine calls_named ?_
          rintro w7 hw7
          have L_7 : Blk w7 pl 28 #[.int .i64 h, .int .i64 e, .int .i64 u] := by rw [hw7]; exact HL_6.out.alloc _
          have N_7 : Blk w7 w4.heap.size 28 #[.int .i64 h, .int .i64 e, .int .i64 mx] := by rw [hw7]; exact HN_6.out.alloc _
          have Wt_7 : Blk w7 w6.heap.size 28 #[.int .i64 h, .int .i64 e, .int .i64 mx] := by rw [hw7]; exact Blk.new _ _ _
          have D_7 : Dice w7 p 89 A n cap := by rw [hw7]; exact HD_6.out.alloc _
          have F_7 : Below w.heap.size w w7 := by rw [hw7]; exact HF_6.out.alloc HF_6.out.size _
          clear hw7
          clear lt_L r_L0 r_L1 r_L2 lt_N r_N0 r_N1 r_N2
          clear HL_6 HN_6 HD_6 HF_6
          have lt_L := L_7.lt
          have r_L0 : w7.cell? ⟨pl, 0, none⟩ = some (.int .i64 (h)) := L_7.cell 0
          have r_L1 : w7.cell? ⟨pl, 1, none⟩ = some (.int .i64 (e)) := L_7.cell 1
          have r_L2 : w7.cell? ⟨pl, 2, none⟩ = some (.int .i64 (u)) := L_7.cell 2
          have lt_N := N_7.lt
          have r_N0 : w7.cell? ⟨w4.heap.size, 0, none⟩ = some (.int .i64 (h)) := N_7.cell 0
          have r_N1 : w7.cell? ⟨w4.heap.size, 1, none⟩ = some (.int .i64 (e)) := N_7.cell 1
          have r_N2 : w7.cell? ⟨w4.heap.size, 2, none⟩ = some (.int .i64 (mx)) := N_7.cell 2
          have lt_Wt := Wt_7.lt
          have r_Wt0 : w7.cell? ⟨w6.heap.size, 0, none⟩ = some (.int .i64 (h)) := Wt_7.cell 0
          have r_Wt1 : w7.cell? ⟨w6.heap.size, 1, none⟩ = some (.int .i64 (e)) := Wt_7.cell 1
          have r_Wt2 : w7.cell? ⟨w6.heap.size, 2, none⟩ = some (.int .i64 (mx)) := Wt_7.cell 2
          have HL_7 := Lib.hid L_7
          have HN_7 := Lib.hid N_7
          have HWt_7 := Lib.hid Wt_7
          have HD_7 := Lib.hid D_7
          have HF_7 := Lib.hid F_7
          clear L_7 N_7 Wt_7 D_7
          have c1 := HoldsAt_any (h) (e) (mx) who (e) ti w7
          rw [hh1.out] at c1
          refine (c1).mono ?_
          rintro e w8 ⟨rfl, b8⟩
          have L_8 := HL_7.out.below b8
          have N_8 := HN_7.out.below b8
          have Wt_8 := HWt_7.out.below b8
          have D_8 := HD_7.out.below b8
          have F_8 := bthen HF_7.out b8
          clear lt_L r_L0 r_L1 r_L2 lt_N r_N0 r_N1 r_N2 lt_Wt r_Wt0 r_Wt1 r_Wt2
          clear HL_7 HN_7 HWt_7 HD_7 HF_7 b8
          have lt_L := L_8.lt
          have r_L0 : w8.cell? ⟨pl, 0, none⟩ = some (.int .i64 (h)) := L_8.cell 0
          have r_L1 : w8.cell? ⟨pl, 1, none⟩ = some (.int .i64 (e)) := L_8.cell 1
          have r_L2 : w8.cell? ⟨pl, 2, none⟩ = some (.int .i64 (u)) := L_8.cell 2
          have lt_N := N_8.lt
          have r_N0 : w8.cell? ⟨w4.heap.size, 0, none⟩ = some (.int .i64 (h)) := N_8.cell 0
          have r_N1 : w8.cell? ⟨w4.heap.size, 1, none⟩ = some (.int .i64 (e)) := N_8.cell 1
          have r_N2 : w8.cell? ⟨w4.heap.size, 2, none⟩ = some (.int .i64 (mx)) := N_8.cell 2
          have lt_Wt := Wt_8.lt
          have r_Wt0 : w8.cell? ⟨w6.heap.size, 0, none⟩ = some (.int .i64 (h)) := Wt_8.cell 0
          have r_Wt1 : w8.cell? ⟨w6.heap.size, 1, none⟩ = some (.int .i64 (e)) := Wt_8.cell 1
          have r_Wt2 : w8.cell? ⟨w6.heap.size, 2, none⟩ = some (.int .i64 (mx)) := Wt_8.cell 2
          have HL_8 := Lib.hid L_8
          have HN_8 := Lib.hid N_8
          have HWt_8 := Lib.hid Wt_8
          have HD_8 := Lib.hid D_8
          have HF_8 := Lib.hid F_8
          clear L_8 N_8 Wt_8 D_8
          have c2 := HoldsAt_any (h) (e) (mx) (5 - who) (e) ti w8
          rw [hh2.out] at c2
          go_wp2_with fail
          refine (c2).mono ?_
          rintro e w9 ⟨rfl, b9⟩
          have L_9 := HL_8.out.below b9
          have N_9 := HN_8.out.below b9
          have Wt_9 := HWt_8.out.below b9
          have D_9 := HD_8.out.below b9
          have F_9 := bthen HF_8.out b9
          clear lt_L r_L0 r_L1 r_L2 lt_N r_N0 r_N1 r_N2 lt_Wt r_Wt0 r_Wt1 r_Wt2
          clear HL_8 HN_8 HWt_8 HD_8 HF_8 b9
          have lt_L := L_9.lt
          have r_L0 : w9.cell? ⟨pl, 0, none⟩ = some (.int .i64 (h)) := L_9.cell 0
          have r_L1 : w9.cell? ⟨pl, 1, none⟩ = some (.int .i64 (e)) := L_9.cell 1
          have r_L2 : w9.cell? ⟨pl, 2, none⟩ = some (.int .i64 (u)) := L_9.cell 2
          have lt_N := N_9.lt
          have r_N0 : w9.cell? ⟨w4.heap.size, 0, none⟩ = some (.int .i64 (h)) := N_9.cell 0
          have r_N1 : w9.cell? ⟨w4.heap.size, 1, none⟩ = some (.int .i64 (e)) := N_9.cell 1
          have r_N2 : w9.cell? ⟨w4.heap.size, 2, none⟩ = some (.int .i64 (mx)) := N_9.cell 2
          have lt_Wt := Wt_9.lt
          have r_Wt0 : w9.cell? ⟨w6.heap.size, 0, none⟩ = some (.int .i64 (h)) := Wt_9.cell 0
          have r_Wt1 : w9.cell? ⟨w6.heap.size, 1, none⟩ = some (.int .i64 (e)) := Wt_9.cell 1
          have r_Wt2 : w9.cell? ⟨w6.heap.size, 2, none⟩ = some (.int .i64 (mx)) := Wt_9.cell 2
          have HL_9 := Lib.hid L_9
          have HN_9 := Lib.hid N_9
          have HWt_9 := Lib.hid Wt_9
          have HD_9 := Lib.hid D_9
          have HF_9 := Lib.hid F_9
          clear L_9 N_9 Wt_9 D_9
          have c3 := LeftAt_any (h) (e) (mx) ti w9
          rw [hh3.out] at c3
          go_wp2_with fail
          refine (c3).mono ?_
          rintro e w10 ⟨rfl, b10⟩
          have L_10 := HL_9.out.below b10
          have N_10 := HN_9.out.below b10
          have Wt_10 := HWt_9.out.below b10
          have D_10 := HD_9.out.below b10
          have F_10 := bthen HF_9.out b10
          clear lt_L r_L0 r_L1 r_L2 lt_N r_N0 r_N1 r_N2 lt_Wt r_Wt0 r_Wt1 r_Wt2
          clear HL_9 HN_9 HWt_9 HD_9 HF_9 b10
          have lt_L := L_10.lt
          have r_L0 : w10.cell? ⟨pl, 0, none⟩ = some (.int .i64 (h)) := L_10.cell 0
          have r_L1 : w10.cell? ⟨pl, 1, none⟩ = some (.int .i64 (e)) := L_10.cell 1
          have r_L2 : w10.cell? ⟨pl, 2, none⟩ = some (.int .i64 (u)) := L_10.cell 2
          have lt_N := N_10.lt
          have r_N0 : w10.cell? ⟨w4.heap.size, 0, none⟩ = some (.int .i64 (h)) := N_10.cell 0
          have r_N1 : w10.cell? ⟨w4.heap.size, 1, none⟩ = some (.int .i64 (e)) := N_10.cell 1
          have r_N2 : w10.cell? ⟨w4.heap.size, 2, none⟩ = some (.int .i64 (mx)) := N_10.cell 2
          have lt_Wt := Wt_10.lt
          have r_Wt0 : w10.cell? ⟨w6.heap.size, 0, none⟩ = some (.int .i64 (h)) := Wt_10.cell 0
          have r_Wt1 : w10.cell? ⟨w6.heap.size, 1, none⟩ = some (.int .i64 (e)) := Wt_10.cell 1
          have r_Wt2 : w10.cell? ⟨w6.heap.size, 2, none⟩ = some (.int .i64 (mx)) := Wt_10.cell 2
          have HL_10 := Lib.hid L_10
          have HN_10 := Lib.hid N_10
          have HWt_10 := Lib.hid Wt_10
          have HD_10 := Lib.hid D_10
          have HF_10 := Lib.hid F_10
          clear L_10 N_10 Wt_10 D_10
          have fz0 := HL_10.out.frozen 0
          have fz1 := HL_10.out.frozen 1
          have fz2 := HL_10.out.frozen 2
          go_wp2
          have Lx := ((HL_10.out.set_ 0 (.int .i64 (h))).set_ 1 (.int .i64 (e))).set_ 2 (.int .i64 (mx))
          have Dx := ((HD_10.out.far (q := ⟨pl, 0, none⟩) hpl (.int .i64 (h))).far (q := ⟨pl, 1, none⟩) hpl (.int .i64 (e))).far (q := ⟨pl, 2, none⟩) hpl (.int .i64 (mx))
          have Fx := ((HF_10.out.setCell (p := ⟨pl, 0, none⟩) hplw (.int .i64 (h))).setCell (p := ⟨pl, 1, none⟩) hplw (.int .i64 (e))).setCell (p := ⟨pl, 2, none⟩) hplw (.int .i64 (mx))
          refine ⟨⟨k + 1, m - 1, ti, h, e, mx, by omega, rfl, congrArg (Value.int .i64) (by omega), hti0, by omega, Lib.hid hnl.out, by omega, Dx, Lx, Fx⟩, by simp [intOf]; omega⟩
        · by_cases hfr : freeB h u ti = true
          · skip
            have hb := lp.out
            have hn1 : leaseB who (e + 1) (ti + long) = true := lease_mk (by omega) (by omega) (by omega)
            have hg := Lib.hid (show grantL h e u who ti long = ((who, e + 1, ti + long), true) by unfold grantL; rw [if_pos hl.out, if_pos HPR.out, if_neg hhw, if_pos (by rw [hfr, decide_eq_true (by omega : e < 1000)]; rfl)])
            have hnl := Lib.hid hn1
            have hh1 := Lib.hid (holds_mk (who := who) (ep := e + 1) (t := ti) hn1 (by omega) (by omega) rfl rfl (by omega))
            have hh2 := Lib.hid (holds_other (e := e + 1) (u := ti + long) (ep := e + 1) (t := ti) (show who ≠ 5 - who by omega))
            have hh3 := Lib.hid (left_mk (t := ti) hn1 (by omega) (by omega) (by omega))
            have hh4 := Lib.hid (free_mk (t := ti) hl.out (by omega) hfr)
            have hle : ¬ ti + long - ti < long := by omega
            have hle' : decide (ti + long - ti < long) = false := decide_eq_false hle
            have hhw' : (h == who) = false := by simpa using hhw
            have hhn : (h != who) = true := by simpa using hhw
            have hei : 0 ≤ e := by omega
            have hei2 : e ≤ 1000 := by omega
            clear hb hn1 hhw hfr lp
            have lt_L := L_3.lt
            have r_L0 : w3.cell? ⟨pl, 0, none⟩ = some (.int .i64 (h)) := L_3.cell 0
            have r_L1 : w3.cell? ⟨pl, 1, none⟩ = some (.int .i64 (e)) := L_3.cell 1
            have r_L2 : w3.cell? ⟨pl, 2, none⟩ = some (.int .i64 (u)) := L_3.cell 2
            have HL_3 := Lib.hid L_3
            have HD_3 := Lib.hid D_3
            have HF_3 := Lib.hid F_3
            clear L_3 D_3
            have cg := Granted_any (h) (e) (u) who ti long w3
            rw [hg.out] at cg
            go_wp2_with fail
            refine (cg).mono ?_
            rintro e w4 ⟨rfl, b4⟩
            have L_4 := HL_3.out.below b4
            have D_4 := HD_3.out.below b4
            have F_4 := bthen HF_3.out b4
            clear lt_L r_L0 r_L1 r_L2
            clear HL_3 HD_3 HF_3 b4
            have lt_L := L_4.lt
            have r_L0 : w4.cell? ⟨pl, 0, none⟩ = some (.int .i64 (h)) := L_4.cell 0
            have r_L1 : w4.cell? ⟨pl, 1, none⟩ = some (.int .i64 (e)) := L_4.cell 1
            have r_L2 : w4.cell? ⟨pl, 2, none⟩ = some (.int .i64 (u)) := L_4.cell 2
            have HL_4 := Lib.hid L_4
            have HD_4 := Lib.hid D_4
            have HF_4 := Lib.hid F_4
            clear L_4 D_4
            go_wp2_with fail
            refine calls_named ?_
            rintro w5 hw5
            have L_5 : Blk w5 pl 28 #[.int .i64 h, .int .i64 e, .int .i64 u] := by rw [hw5]; exact HL_4.out.alloc _
            have N_5 : Blk w5 w4.heap.size 28 #[.int .i64 who, .int .i64 (e + 1), .int .i64 (ti + long)] := by rw [hw5]; exact Blk.new _ _ _
            have D_5 : Dice w5 p 89 A n cap := by rw [hw5]; exact HD_4.out.alloc _
            have F_5 : Below w.heap.size w w5 := by rw [hw5]; exact HF_4.out.alloc HF_4.out.size _
            clear hw5
            clear lt_L r_L0 r_L1 r_L2
            clear HL_4 HD_4 HF_4
            have lt_L := L_5.lt
            have r_L0 : w5.cell? ⟨pl, 0, none⟩ = some (.int .i64 (h)) := L_5.cell 0
            have r_L1 : w5.cell? ⟨pl, 1, none⟩ = some (.int .i64 (e)) := L_5.cell 1
            have r_L2 : w5.cell? ⟨pl, 2, none⟩ = some (.int .i64 (u)) := L_5.cell 2
            have lt_N := N_5.lt
            have r_N0 : w5.cell? ⟨w4.heap.size, 0, none⟩ = some (.int .i64 (who)) := N_5.cell 0
            have r_N1 : w5.cell? ⟨w4.heap.size, 1, none⟩ = some (.int .i64 (e + 1)) := N_5.cell 1
            have r_N2 : w5.cell? ⟨w4.heap.size, 2, none⟩ = some (.int .i64 (ti + long)) := N_5.cell 2
            have HL_5 := Lib.hid L_5
            have HN_5 := Lib.hid N_5
            have HD_5 := Lib.hid D_5
            have HF_5 := Lib.hid F_5
            clear L_5 N_5 D_5
            have cg2 := specGranted_any (h) (e) (u) who ti long w5
            rw [hg.out] at cg2
            refine (cg2).mono ?_
            rintro e w6 ⟨rfl, b6⟩
            have L_6 := HL_5.out.below b6
            have N_6 := HN_5.out.below b6
            have D_6 := HD_5.out.below b6
            have F_6 := bthen HF_5.out b6
            clear lt_L r_L0 r_L1 r_L2 lt_N r_N0 r_N1 r_N2
            clear HL_5 HN_5 HD_5 HF_5 b6
            have lt_L := L_6.lt
            have r_L0 : w6.cell? ⟨pl, 0, none⟩ = some (.int .i64 (h)) := L_6.cell 0
            have r_L1 : w6.cell? ⟨pl, 1, none⟩ = some (.int .i64 (e)) := L_6.cell 1
            have r_L2 : w6.cell? ⟨pl, 2, none⟩ = some (.int .i64 (u)) := L_6.cell 2
            have lt_N := N_6.lt
            have r_N0 : w6.cell? ⟨w4.heap.size, 0, none⟩ = some (.int .i64 (who)) := N_6.cell 0
            have r_N1 : w6.cell? ⟨w4.heap.size, 1, none⟩ = some (.int .i64 (e + 1)) := N_6.cell 1
            have r_N2 : w6.cell? ⟨w4.heap.size, 2, none⟩ = some (.int .i64 (ti + long)) := N_6.cell 2
            have HL_6 := Lib.hid L_6
            have HN_6 := Lib.hid N_6
            have HD_6 := Lib.hid D_6
            have HF_6 := Lib.hid F_6
            clear L_6 N_6 D_6
            go_wp2_with fail
            refine calls_named ?_
            rintro w7 hw7
            have L_7 : Blk w7 pl 28 #[.int .i64 h, .int .i64 e, .int .i64 u] := by rw [hw7]; exact HL_6.out.alloc _
            have N_7 : Blk w7 w4.heap.size 28 #[.int .i64 who, .int .i64 (e + 1), .int .i64 (ti + long)] := by rw [hw7]; exact HN_6.out.alloc _
            have Wt_7 : Blk w7 w6.heap.size 28 #[.int .i64 who, .int .i64 (e + 1), .int .i64 (ti + long)] := by rw [hw7]; exact Blk.new _ _ _
            have D_7 : Dice w7 p 89 A n cap := by rw [hw7]; exact HD_6.out.alloc _
            have F_7 : Below w.heap.size w w7 := by rw [hw7]; exact HF_6.out.alloc HF_6.out.size _
            clear hw7
            clear lt_L r_L0 r_L1 r_L2 lt_N r_N0 r_N1 r_N2
            clear HL_6 HN_6 HD_6 HF_6
            have lt_L := L_7.lt
            have r_L0 : w7.cell? ⟨pl, 0, none⟩ = some (.int .i64 (h)) := L_7.cell 0
            have r_L1 : w7.cell? ⟨pl, 1, none⟩ = some (.int .i64 (e)) := L_7.cell 1
            have r_L2 : w7.cell? ⟨pl, 2, none⟩ = some (.int .i64 (u)) := L_7.cell 2
            have lt_N := N_7.lt
            have r_N0 : w7.cell? ⟨w4.heap.size, 0, none⟩ = some (.int .i64 (who)) := N_7.cell 0
            have r_N1 : w7.cell? ⟨w4.heap.size, 1, none⟩ = some (.int .i64 (e + 1)) := N_7.cell 1
            have r_N2 : w7.cell? ⟨w4.heap.size, 2, none⟩ = some (.int .i64 (ti + long)) := N_7.cell 2
            have lt_Wt := Wt_7.lt
            have r_Wt0 : w7.cell? ⟨w6.heap.size, 0, none⟩ = some (.int .i64 (who)) := Wt_7.cell 0
            have r_Wt1 : w7.cell? ⟨w6.heap.size, 1, none⟩ = some (.int .i64 (e + 1)) := Wt_7.cell 1
            have r_Wt2 : w7.cell? ⟨w6.heap.size, 2, none⟩ = some (.int .i64 (ti + long)) := Wt_7.cell 2
            have HL_7 := Lib.hid L_7
            have HN_7 := Lib.hid N_7
            have HWt_7 := Lib.hid Wt_7
            have HD_7 := Lib.hid D_7
            have HF_7 := Lib.hid F_7
            clear L_7 N_7 Wt_7 D_7
            have c1 := HoldsAt_any (who) (e + 1) (ti + long) who (e + 1) ti w7
            rw [hh1.out] at c1
            refine (c1).mono ?_
            rintro e w8 ⟨rfl, b8⟩
            have L_8 := HL_7.out.below b8
            have N_8 := HN_7.out.below b8
            have Wt_8 := HWt_7.out.below b8
            have D_8 := HD_7.out.below b8
            have F_8 := bthen HF_7.out b8
            clear lt_L r_L0 r_L1 r_L2 lt_N r_N0 r_N1 r_N2 lt_Wt r_Wt0 r_Wt1 r_Wt2
            clear HL_7 HN_7 HWt_7 HD_7 HF_7 b8
            have lt_L := L_8.lt
            have r_L0 : w8.cell? ⟨pl, 0, none⟩ = some (.int .i64 (h)) := L_8.cell 0
            have r_L1 : w8.cell? ⟨pl, 1, none⟩ = some (.int .i64 (e)) := L_8.cell 1
            have r_L2 : w8.cell? ⟨pl, 2, none⟩ = some (.int .i64 (u)) := L_8.cell 2
            have lt_N := N_8.lt
            have r_N0 : w8.cell? ⟨w4.heap.size, 0, none⟩ = some (.int .i64 (who)) := N_8.cell 0
            have r_N1 : w8.cell? ⟨w4.heap.size, 1, none⟩ = some (.int .i64 (e + 1)) := N_8.cell 1
            have r_N2 : w8.cell? ⟨w4.heap.size, 2, none⟩ = some (.int .i64 (ti + long)) := N_8.cell 2
            have lt_Wt := Wt_8.lt
            have r_Wt0 : w8.cell? ⟨w6.heap.size, 0, none⟩ = some (.int .i64 (who)) := Wt_8.cell 0
            have r_Wt1 : w8.cell? ⟨w6.heap.size, 1, none⟩ = some (.int .i64 (e + 1)) := Wt_8.cell 1
            have r_Wt2 : w8.cell? ⟨w6.heap.size, 2, none⟩ = some (.int .i64 (ti + long)) := Wt_8.cell 2
            have HL_8 := Lib.hid L_8
            have HN_8 := Lib.hid N_8
            have HWt_8 := Lib.hid Wt_8
            have HD_8 := Lib.hid D_8
            have HF_8 := Lib.hid F_8
            clear L_8 N_8 Wt_8 D_8
            have c2 := HoldsAt_any (who) (e + 1) (ti + long) (5 - who) (e + 1) ti w8
            rw [hh2.out] at c2
            go_wp2_with fail
            refine (c2).mono ?_
            rintro e w9 ⟨rfl, b9⟩
            have L_9 := HL_8.out.below b9
            have N_9 := HN_8.out.below b9
            have Wt_9 := HWt_8.out.below b9
            have D_9 := HD_8.out.below b9
            have F_9 := bthen HF_8.out b9
            clear lt_L r_L0 r_L1 r_L2 lt_N r_N0 r_N1 r_N2 lt_Wt r_Wt0 r_Wt1 r_Wt2
            clear HL_8 HN_8 HWt_8 HD_8 HF_8 b9
            have lt_L := L_9.lt
            have r_L0 : w9.cell? ⟨pl, 0, none⟩ = some (.int .i64 (h)) := L_9.cell 0
            have r_L1 : w9.cell? ⟨pl, 1, none⟩ = some (.int .i64 (e)) := L_9.cell 1
            have r_L2 : w9.cell? ⟨pl, 2, none⟩ = some (.int .i64 (u)) := L_9.cell 2
            have lt_N := N_9.lt
            have r_N0 : w9.cell? ⟨w4.heap.size, 0, none⟩ = some (.int .i64 (who)) := N_9.cell 0
            have r_N1 : w9.cell? ⟨w4.heap.size, 1, none⟩ = some (.int .i64 (e + 1)) := N_9.cell 1
            have r_N2 : w9.cell? ⟨w4.heap.size, 2, none⟩ = some (.int .i64 (ti + long)) := N_9.cell 2
            have lt_Wt := Wt_9.lt
            have r_Wt0 : w9.cell? ⟨w6.heap.size, 0, none⟩ = some (.int .i64 (who)) := Wt_9.cell 0
            have r_Wt1 : w9.cell? ⟨w6.heap.size, 1, none⟩ = some (.int .i64 (e + 1)) := Wt_9.cell 1
            have r_Wt2 : w9.cell? ⟨w6.heap.size, 2, none⟩ = some (.int .i64 (ti + long)) := Wt_9.cell 2
            have HL_9 := Lib.hid L_9
            have HN_9 := Lib.hid N_9
            have HWt_9 := Lib.hid Wt_9
            have HD_9 := Lib.hid D_9
            have HF_9 := Lib.hid F_9
            clear L_9 N_9 Wt_9 D_9
            have c3 := LeftAt_any (who) (e + 1) (ti + long) ti w9
            rw [hh3.out] at c3
            go_wp2_with fail
            refine (c3).mono ?_
            rintro e w10 ⟨rfl, b10⟩
            have L_10 := HL_9.out.below b10
            have N_10 := HN_9.out.below b10
            have Wt_10 := HWt_9.out.below b10
            have D_10 := HD_9.out.below b10
            have F_10 := bthen HF_9.out b10
            clear lt_L r_L0 r_L1 r_L2 lt_N r_N0 r_N1 r_N2 lt_Wt r_Wt0 r_Wt1 r_Wt2
            clear HL_9 HN_9 HWt_9 HD_9 HF_9 b10
            have lt_L := L_10.lt
            have r_L0 : w10.cell? ⟨pl, 0, none⟩ = some (.int .i64 (h)) := L_10.cell 0
            have r_L1 : w10.cell? ⟨pl, 1, none⟩ = some (.int .i64 (e)) := L_10.cell 1
            have r_L2 : w10.cell? ⟨pl, 2, none⟩ = some (.int .i64 (u)) := L_10.cell 2
            have lt_N := N_10.lt
            have r_N0 : w10.cell? ⟨w4.heap.size, 0, none⟩ = some (.int .i64 (who)) := N_10.cell 0
            have r_N1 : w10.cell? ⟨w4.heap.size, 1, none⟩ = some (.int .i64 (e + 1)) := N_10.cell 1
            have r_N2 : w10.cell? ⟨w4.heap.size, 2, none⟩ = some (.int .i64 (ti + long)) := N_10.cell 2
            have lt_Wt := Wt_10.lt
            have r_Wt0 : w10.cell? ⟨w6.heap.size, 0, none⟩ = some (.int .i64 (who)) := Wt_10.cell 0
            have r_Wt1 : w10.cell? ⟨w6.heap.size, 1, none⟩ = some (.int .i64 (e + 1)) := Wt_10.cell 1
            have r_Wt2 : w10.cell? ⟨w6.heap.size, 2, none⟩ = some (.int .i64 (ti + long)) := Wt_10.cell 2
            have HL_10 := Lib.hid L_10
            have HN_10 := Lib.hid N_10
            have HWt_10 := Lib.hid Wt_10
            have HD_10 := Lib.hid D_10
            have HF_10 := Lib.hid F_10
            clear L_10 N_10 Wt_10 D_10
            have c4 := FreeAt_any (h) (e) (u) ti w10
            rw [hh4.out] at c4
            go_wp2_with fail
            refine (c4).mono ?_
            rintro e w11 ⟨rfl, b11⟩
            have L_11 := HL_10.out.below b11
            have N_11 := HN_10.out.below b11
            have Wt_11 := HWt_10.out.below b11
            have D_11 := HD_10.out.below b11
            have F_11 := bthen HF_10.out b11
            clear lt_L r_L0 r_L1 r_L2 lt_N r_N0 r_N1 r_N2 lt_Wt r_Wt0 r_Wt1 r_Wt2
            clear HL_10 HN_10 HWt_10 HD_10 HF_10 b11
            have lt_L := L_11.lt
            have r_L0 : w11.cell? ⟨pl, 0, none⟩ = some (.int .i64 (h)) := L_11.cell 0
            have r_L1 : w11.cell? ⟨pl, 1, none⟩ = some (.int .i64 (e)) := L_11.cell 1
            have r_L2 : w11.cell? ⟨pl, 2, none⟩ = some (.int .i64 (u)) := L_11.cell 2
            have lt_N := N_11.lt
            have r_N0 : w11.cell? ⟨w4.heap.size, 0, none⟩ = some (.int .i64 (who)) := N_11.cell 0
            have r_N1 : w11.cell? ⟨w4.heap.size, 1, none⟩ = some (.int .i64 (e + 1)) := N_11.cell 1
            have r_N2 : w11.cell? ⟨w4.heap.size, 2, none⟩ = some (.int .i64 (ti + long)) := N_11.cell 2
            have lt_Wt := Wt_11.lt
            have r_Wt0 : w11.cell? ⟨w6.heap.size, 0, none⟩ = some (.int .i64 (who)) := Wt_11.cell 0
            have r_Wt1 : w11.cell? ⟨w6.heap.size, 1, none⟩ = some (.int .i64 (e + 1)) := Wt_11.cell 1
            have r_Wt2 : w11.cell? ⟨w6.heap.size, 2, none⟩ = some (.int .i64 (ti + long)) := Wt_11.cell 2
            have HL_11 := Lib.hid L_11
            have HN_11 := Lib.hid N_11
            have HWt_11 := Lib.hid Wt_11
            have HD_11 := Lib.hid D_11
            have HF_11 := Lib.hid F_11
            clear L_11 N_11 Wt_11 D_11
            have fz0 := HL_11.out.frozen 0
            have fz1 := HL_11.out.frozen 1
            have fz2 := HL_11.out.frozen 2
            go_wp2
            have Lx := ((HL_11.out.set_ 0 (.int .i64 (who))).set_ 1 (.int .i64 (e + 1))).set_ 2 (.int .i64 (ti + long))
            have Dx := ((HD_11.out.far (q := ⟨pl, 0, none⟩) hpl (.int .i64 (who))).far (q := ⟨pl, 1, none⟩) hpl (.int .i64 (e + 1))).far (q := ⟨pl, 2, none⟩) hpl (.int .i64 (ti + long))
            have Fx := ((HF_11.out.setCell (p := ⟨pl, 0, none⟩) hplw (.int .i64 (who))).setCell (p := ⟨pl, 1, none⟩) hplw (.int .i64 (e + 1))).setCell (p := ⟨pl, 2, none⟩) hplw (.int .i64 (ti + long))
            refine ⟨⟨k + 1, m - 1, ti, who, e + 1, ti + long, by omega, rfl, congrArg (Value.int .i64) (by omega), hti0, by omega, Lib.hid hnl.out, by omega, Dx, Lx, Fx⟩, by simp [intOf]; omega⟩
          · skip
            have hb := lp.out
            have hfr' : freeB h u ti = false := by simpa using hfr
            have hfh : h ≠ 0 ∧ ti < u := by
              unfold freeB at hfr'
              simp only [Bool.or_eq_false_iff, decide_eq_false_iff_not] at hfr'
              exact ⟨hfr'.1, by omega⟩
            have hg := Lib.hid (show grantL h e u who ti long = ((h, e, u), false) by unfold grantL; rw [if_pos hl.out, if_pos HPR.out, if_neg hhw, if_neg (by rw [hfr']; simp)])
            have hnl := hl
            have hh1 := Lib.hid (show freeAtB h e u ti = false by unfold freeAtB; rw [hfr']; simp)
            have hh2 := Lib.hid (holds_mk (who := 5 - who) (ep := e) (t := ti) hl.out (by omega) hfh.1 (by omega) rfl hfh.2)
            have hei : 0 ≤ e := by omega
            clear hb hfr hfr' hfh lp hhw
            have lt_L := L_3.lt
            have r_L0 : w3.cell? ⟨pl, 0, none⟩ = some (.int .i64 (h)) := L_3.cell 0
            have r_L1 : w3.cell? ⟨pl, 1, none⟩ = some (.int .i64 (e)) := L_3.cell 1
            have r_L2 : w3.cell? ⟨pl, 2, none⟩ = some (.int .i64 (u)) := L_3.cell 2
            have HL_3 := Lib.hid L_3
            have HD_3 := Lib.hid D_3
            have HF_3 := Lib.hid F_3
            clear L_3 D_3
            have cg := Granted_any (h) (e) (u) who ti long w3
            rw [hg.out] at cg
            go_wp2_with fail
            refine (cg).mono ?_
            rintro e w4 ⟨rfl, b4⟩
            have L_4 := HL_3.out.below b4
            have D_4 := HD_3.out.below b4
            have F_4 := bthen HF_3.out b4
            clear lt_L r_L0 r_L1 r_L2
            clear HL_3 HD_3 HF_3 b4
            have lt_L := L_4.lt
            have r_L0 : w4.cell? ⟨pl, 0, none⟩ = some (.int .i64 (h)) := L_4.cell 0
            have r_L1 : w4.cell? ⟨pl, 1, none⟩ = some (.int .i64 (e)) := L_4.cell 1
            have r_L2 : w4.cell? ⟨pl, 2, none⟩ = some (.int .i64 (u)) := L_4.cell 2
            have HL_4 := Lib.hid L_4
            have HD_4 := Lib.hid D_4
            have HF_4 := Lib.hid F_4
            clear L_4 D_4
            go_wp2_with fail
            refine calls_named ?_
            rintro w5 hw5
            have L_5 : Blk w5 pl 28 #[.int .i64 h, .int .i64 e, .int .i64 u] := by rw [hw5]; exact HL_4.out.alloc _
            have N_5 : Blk w5 w4.heap.size 28 #[.int .i64 h, .int .i64 e, .int .i64 u] := by rw [hw5]; exact Blk.new _ _ _
            have D_5 : Dice w5 p 89 A n cap := by rw [hw5]; exact HD_4.out.alloc _
            have F_5 : Below w.heap.size w w5 := by rw [hw5]; exact HF_4.out.alloc HF_4.out.size _
            clear hw5
            clear lt_L r_L0 r_L1 r_L2
            clear HL_4 HD_4 HF_4
            have lt_L := L_5.lt
            have r_L0 : w5.cell? ⟨pl, 0, none⟩ = some (.int .i64 (h)) := L_5.cell 0
            have r_L1 : w5.cell? ⟨pl, 1, none⟩ = some (.int .i64 (e)) := L_5.cell 1
            have r_L2 : w5.cell? ⟨pl, 2, none⟩ = some (.int .i64 (u)) := L_5.cell 2
            have lt_N := N_5.lt
            have r_N0 : w5.cell? ⟨w4.heap.size, 0, none⟩ = some (.int .i64 (h)) := N_5.cell 0
            have r_N1 : w5.cell? ⟨w4.heap.size, 1, none⟩ = some (.int .i64 (e)) := N_5.cell 1
            have r_N2 : w5.cell? ⟨w4.heap.size, 2, none⟩ = some (.int .i64 (u)) := N_5.cell 2
            have HL_5 := Lib.hid L_5
            have HN_5 := Lib.hid N_5
            have HD_5 := Lib.hid D_5
            have HF_5 := Lib.hid F_5
            clear L_5 N_5 D_5
            have cg2 := specGranted_any (h) (e) (u) who ti long w5
            rw [hg.out] at cg2
            refine (cg2).mono ?_
            rintro e w6 ⟨rfl, b6⟩
            have L_6 := HL_5.out.below b6
            have N_6 := HN_5.out.below b6
            have D_6 := HD_5.out.below b6
            have F_6 := bthen HF_5.out b6
            clear lt_L r_L0 r_L1 r_L2 lt_N r_N0 r_N1 r_N2
            clear HL_5 HN_5 HD_5 HF_5 b6
            have lt_L := L_6.lt
            have r_L0 : w6.cell? ⟨pl, 0, none⟩ = some (.int .i64 (h)) := L_6.cell 0
            have r_L1 : w6.cell? ⟨pl, 1, none⟩ = some (.int .i64 (e)) := L_6.cell 1
            have r_L2 : w6.cell? ⟨pl, 2, none⟩ = some (.int .i64 (u)) := L_6.cell 2
            have lt_N := N_6.lt
            have r_N0 : w6.cell? ⟨w4.heap.size, 0, none⟩ = some (.int .i64 (h)) := N_6.cell 0
            have r_N1 : w6.cell? ⟨w4.heap.size, 1, none⟩ = some (.int .i64 (e)) := N_6.cell 1
            have r_N2 : w6.cell? ⟨w4.heap.size, 2, none⟩ = some (.int .i64 (u)) := N_6.cell 2
            have HL_6 := Lib.hid L_6
            have HN_6 := Lib.hid N_6
            have HD_6 := Lib.hid D_6
            have HF_6 := Lib.hid F_6
            clear L_6 N_6 D_6
            go_wp2_with fail
            refine calls_named ?_
            rintro w7 hw7
            have L_7 : Blk w7 pl 28 #[.int .i64 h, .int .i64 e, .int .i64 u] := by rw [hw7]; exact HL_6.out.alloc _
            have N_7 : Blk w7 w4.heap.size 28 #[.int .i64 h, .int .i64 e, .int .i64 u] := by rw [hw7]; exact HN_6.out.alloc _
            have Wt_7 : Blk w7 w6.heap.size 28 #[.int .i64 h, .int .i64 e, .int .i64 u] := by rw [hw7]; exact Blk.new _ _ _
            have D_7 : Dice w7 p 89 A n cap := by rw [hw7]; exact HD_6.out.alloc _
            have F_7 : Below w.heap.size w w7 := by rw [hw7]; exact HF_6.out.alloc HF_6.out.size _
            clear hw7
            clear lt_L r_L0 r_L1 r_L2 lt_N r_N0 r_N1 r_N2
            clear HL_6 HN_6 HD_6 HF_6
            have lt_L := L_7.lt
            have r_L0 : w7.cell? ⟨pl, 0, none⟩ = some (.int .i64 (h)) := L_7.cell 0
            have r_L1 : w7.cell? ⟨pl, 1, none⟩ = some (.int .i64 (e)) := L_7.cell 1
            have r_L2 : w7.cell? ⟨pl, 2, none⟩ = some (.int .i64 (u)) := L_7.cell 2
            have lt_N := N_7.lt
            have r_N0 : w7.cell? ⟨w4.heap.size, 0, none⟩ = some (.int .i64 (h)) := N_7.cell 0
            have r_N1 : w7.cell? ⟨w4.heap.size, 1, none⟩ = some (.int .i64 (e)) := N_7.cell 1
            have r_N2 : w7.cell? ⟨w4.heap.size, 2, none⟩ = some (.int .i64 (u)) := N_7.cell 2
            have lt_Wt := Wt_7.lt
            have r_Wt0 : w7.cell? ⟨w6.heap.size, 0, none⟩ = some (.int .i64 (h)) := Wt_7.cell 0
            have r_Wt1 : w7.cell? ⟨w6.heap.size, 1, none⟩ = some (.int .i64 (e)) := Wt_7.cell 1
            have r_Wt2 : w7.cell? ⟨w6.heap.size, 2, none⟩ = some (.int .i64 (u)) := Wt_7.cell 2
            have HL_7 := Lib.hid L_7
            have HN_7 := Lib.hid N_7
            have HWt_7 := Lib.hid Wt_7
            have HD_7 := Lib.hid D_7
            have HF_7 := Lib.hid F_7
            clear L_7 N_7 Wt_7 D_7
            have c1 := FreeAt_any (h) (e) (u) ti w7
            rw [hh1.out] at c1
            refine (c1).mono ?_
            rintro e w8 ⟨rfl, b8⟩
            have L_8 := HL_7.out.below b8
            have N_8 := HN_7.out.below b8
            have Wt_8 := HWt_7.out.below b8
            have D_8 := HD_7.out.below b8
            have F_8 := bthen HF_7.out b8
            clear lt_L r_L0 r_L1 r_L2 lt_N r_N0 r_N1 r_N2 lt_Wt r_Wt0 r_Wt1 r_Wt2
            clear HL_7 HN_7 HWt_7 HD_7 HF_7 b8
            have lt_L := L_8.lt
            have r_L0 : w8.cell? ⟨pl, 0, none⟩ = some (.int .i64 (h)) := L_8.cell 0
            have r_L1 : w8.cell? ⟨pl, 1, none⟩ = some (.int .i64 (e)) := L_8.cell 1
            have r_L2 : w8.cell? ⟨pl, 2, none⟩ = some (.int .i64 (u)) := L_8.cell 2
            have lt_N := N_8.lt
            have r_N0 : w8.cell? ⟨w4.heap.size, 0, none⟩ = some (.int .i64 (h)) := N_8.cell 0
            have r_N1 : w8.cell? ⟨w4.heap.size, 1, none⟩ = some (.int .i64 (e)) := N_8.cell 1
            have r_N2 : w8.cell? ⟨w4.heap.size, 2, none⟩ = some (.int .i64 (u)) := N_8.cell 2
            have lt_Wt := Wt_8.lt
            have r_Wt0 : w8.cell? ⟨w6.heap.size, 0, none⟩ = some (.int .i64 (h)) := Wt_8.cell 0
            have r_Wt1 : w8.cell? ⟨w6.heap.size, 1, none⟩ = some (.int .i64 (e)) := Wt_8.cell 1
            have r_Wt2 : w8.cell? ⟨w6.heap.size, 2, none⟩ = some (.int .i64 (u)) := Wt_8.cell 2
            have HL_8 := Lib.hid L_8
            have HN_8 := Lib.hid N_8
            have HWt_8 := Lib.hid Wt_8
            have HD_8 := Lib.hid D_8
            have HF_8 := Lib.hid F_8
            clear L_8 N_8 Wt_8 D_8
            have c2 := HoldsAt_any (h) (e) (u) (5 - who) (e) ti w8
            rw [hh2.out] at c2
            go_wp2_with fail
            refine (c2).mono ?_
            rintro e w9 ⟨rfl, b9⟩
            have L_9 := HL_8.out.below b9
            have N_9 := HN_8.out.below b9
            have Wt_9 := HWt_8.out.below b9
            have D_9 := HD_8.out.below b9
            have F_9 := bthen HF_8.out b9
            clear lt_L r_L0 r_L1 r_L2 lt_N r_N0 r_N1 r_N2 lt_Wt r_Wt0 r_Wt1 r_Wt2
            clear HL_8 HN_8 HWt_8 HD_8 HF_8 b9
            have lt_L := L_9.lt
            have r_L0 : w9.cell? ⟨pl, 0, none⟩ = some (.int .i64 (h)) := L_9.cell 0
            have r_L1 : w9.cell? ⟨pl, 1, none⟩ = some (.int .i64 (e)) := L_9.cell 1
            have r_L2 : w9.cell? ⟨pl, 2, none⟩ = some (.int .i64 (u)) := L_9.cell 2
            have lt_N := N_9.lt
            have r_N0 : w9.cell? ⟨w4.heap.size, 0, none⟩ = some (.int .i64 (h)) := N_9.cell 0
            have r_N1 : w9.cell? ⟨w4.heap.size, 1, none⟩ = some (.int .i64 (e)) := N_9.cell 1
            have r_N2 : w9.cell? ⟨w4.heap.size, 2, none⟩ = some (.int .i64 (u)) := N_9.cell 2
            have lt_Wt := Wt_9.lt
            have r_Wt0 : w9.cell? ⟨w6.heap.size, 0, none⟩ = some (.int .i64 (h)) := Wt_9.cell 0
            have r_Wt1 : w9.cell? ⟨w6.heap.size, 1, none⟩ = some (.int .i64 (e)) := Wt_9.cell 1
            have r_Wt2 : w9.cell? ⟨w6.heap.size, 2, none⟩ = some (.int .i64 (u)) := Wt_9.cell 2
            have HL_9 := Lib.hid L_9
            have HN_9 := Lib.hid N_9
            have HWt_9 := Lib.hid Wt_9
            have HD_9 := Lib.hid D_9
            have HF_9 := Lib.hid F_9
            clear L_9 N_9 Wt_9 D_9
            have fz0 := HL_9.out.frozen 0
            have fz1 := HL_9.out.frozen 1
            have fz2 := HL_9.out.frozen 2
            go_wp2
            have Lx := ((HL_9.out.set_ 0 (.int .i64 (h))).set_ 1 (.int .i64 (e))).set_ 2 (.int .i64 (u))
            have Dx := ((HD_9.out.far (q := ⟨pl, 0, none⟩) hpl (.int .i64 (h))).far (q := ⟨pl, 1, none⟩) hpl (.int .i64 (e))).far (q := ⟨pl, 2, none⟩) hpl (.int .i64 (u))
            have Fx := ((HF_9.out.setCell (p := ⟨pl, 0, none⟩) hplw (.int .i64 (h))).setCell (p := ⟨pl, 1, none⟩) hplw (.int .i64 (e))).setCell (p := ⟨pl, 2, none⟩) hplw (.int .i64 (u))
            refine ⟨⟨k + 1, m - 1, ti, h, e, u, by omega, rfl, congrArg (Value.int .i64) (by omega), hti0, by omega, Lib.hid hnl.out, by omega, Dx, Lx, Fx⟩, by simp [intOf]; omega⟩
      · have hm' : ¬ (0 : Int) < (m : Int) := by omega
        obtain ⟨q0, q1, q2⟩ : wr.cell? ⟨pl, 0, none⟩ = some (.int .i64 h) ∧ wr.cell? ⟨pl, 1, none⟩ = some (.int .i64 e) ∧ wr.cell? ⟨pl, 2, none⟩ = some (.int .i64 u) := ⟨L.cell 0, L.cell 1, L.cell 2⟩
        have cl := leaseOk_any h e u wr
        rw [hl.out] at cl
        go_wp2_with fail
        refine cl.mono ?_
        rintro e1 w1 ⟨rfl, b1⟩
        go_wp2
        go_ret
        exact ⟨rfl, bstep b1 hbl hbl.size⟩
end Go.Proofs.Ytgpllffiahccjaa

/- The walk of the law FnLeaseBack. -/
import Derived.Test.YtgpllffiahccjaaD3
import Derived.Test.YtgpllffiahccjaaLease8
import Derived.Test.YtgpllffiahccjaaLease7
import Derived.Test.YtgpllffiahccjaaLease2
import Derived.Test.YtgpllffiahccjaaSInt64
import Derived.Test.YtgpllffiahccjaaDice
import Derived.Deep.RegionHeldLaw
namespace Go.Proofs.Ytgpllffiahccjaa
set_option linter.unusedSimpArgs false
set_option linter.unusedVariables false
attribute [local go_sem] n_lt2 n_lt3 n_lt4 n_le2 n_le3
open Go.RowKit
attribute [local go_sem] Ext.cell Ext.frozen

set_option maxRecDepth 100000 in
set_option maxHeartbeats 4000000 in
theorem law_LeaseBack (A : Option Addr) (n cap : Nat) (bs : List Int) (w : World) (hS : SlB w A n bs) (hnc : n ≤ cap) (hcm : cap ≤ maxLen) :
    Calls Try.prog 4 #[.slice A n cap] w fun e' w' => e' = .returned (.bool true) ∧ Below w.heap.size w w' := by
  have hm0 : n ≤ maxLen := Nat.le_trans hnc hcm
  by_cases hbig : 4096 < n
  · have hd : decide (4096 < n) = true := decide_eq_true hbig
    have cb := big_any A n cap w hm0
    rw [hd] at cb
    clear hd hbig
    go_enter Try.func4, Try.ntmps4
    go_wp21
    refine cb.mono ?_
    rintro e w' ⟨rfl, rfl⟩
    go_wp21
    go_ret
    exact ⟨rfl, Below.refl _ _⟩
  have hd : decide (4096 < n) = false := decide_eq_false hbig
  have cb := big_any A n cap w hm0
  rw [hd] at cb
  have HSB := Lib.hid hS
  clear hd hS
  go_enter Try.func4, Try.ntmps4
  go_wp21
  refine cb.mono ?_
  rintro e w' ⟨rfl, rfl⟩
  clear cb
  have B0 : Below w.heap.size w w := Below.refl _ _
  go_wp2_with fail
  refine (DrawFreeAt_any A n cap bs w HSB.out (by omega)).mono ?_
  rintro e w1 ⟨h, e0, u, t, rfl, b1⟩
  have F_1 := b1
  cases hb : leaseB h e0 u with
  | false =>
    have hv : leaseRowL h e0 u = [] := by unfold leaseRowL; rw [hb]; rfl
    go_wp2_with fail
    refine calls_named ?_
    rintro w2 hw2
    have XN_1 : Blk w2 w1.heap.size 28 #[.int .i64 h, .int .i64 e0, .int .i64 u] := by rw [hw2]; exact (Blk.new _ _ _)
    have b2 : Below w1.heap.size w1 w2 := by rw [hw2]; (repeat' (first | (with_reducible exact Below.refl _ _) | (with_reducible assumption) | (with_reducible refine Below.alloc ?_ ?_ _) | (with_reducible refine Below.drew ?_) | (with_reducible refine Below.setCell ?_ ?_ _) | (with_reducible refine bstep (by assumption) ?_ ?_) | (with_reducible exact Nat.le_refl _) | omega | (simp [*]; done) | (simp [*]; omega)))
    clear hw2
    have F_2 := bthen F_1 b2
    have XN_2 := XN_1
    have e1 := LeaseRow_any h e0 u w2
    rw [hv] at e1
    clear hv
    refine (e1).mono ?_
    rintro e w3 ⟨A_r, c_r, rfl, R_r, b3⟩
    clear e1
    have G_r : w.heap.size ≤ w2.heap.size := F_2.size
    have XN_3 := XN_2.below b3
    clear XN_2
    have F_3 := bthen F_2 b3
    have r_3 := R_r
    clear R_r
    have hr : rowLeaseL [] = ((0, 0, 0), false) := rfl
    have e2 := RowLease_any A_r 0 c_r [] w3 r_3.sl (by simp [maxLen])
    rw [hr] at e2
    clear hr
    go_wp2_with fail
    refine (e2).mono ?_
    rintro e w4 ⟨rfl, b4⟩
    clear e2
    have XN_4 := XN_3.below b4
    clear XN_3
    have r_4 := r_3.below b4
    clear r_3
    have F_4 := bthen F_3 b4
    have lt_XN := XN_4.lt
    have r_XN0 := XN_4.cell 0
    have r_XN1 := XN_4.cell 1
    have r_XN2 := XN_4.cell 2
    simp only [List.getElem?_toArray, List.getElem?_cons_zero, List.getElem?_cons_succ] at r_XN0 r_XN1 r_XN2
    go_wp2_with fail
    refine calls_named ?_
    rintro w5 hw5
    have XB_4 : Blk w5 w4.heap.size 28 #[.int .i64 0, .int .i64 0, .int .i64 0] := by rw [hw5]; exact (Blk.new _ _ _)
    have b5 : Below w4.heap.size w4 w5 := by rw [hw5]; (repeat' (first | (with_reducible exact Below.refl _ _) | (with_reducible assumption) | (with_reducible refine Below.alloc ?_ ?_ _) | (with_reducible refine Below.drew ?_) | (with_reducible refine Below.setCell ?_ ?_ _) | (with_reducible refine bstep (by assumption) ?_ ?_) | (with_reducible exact Nat.le_refl _) | omega | (simp [*]; done) | (simp [*]; omega)))
    clear hw5
    have XN_5 := XN_4.below b5
    clear XN_4
    have r_5 := r_4.below b5
    clear r_4
    have F_5 := bthen F_4 b5
    have XB_5 := XB_4
    clear lt_XN r_XN0 r_XN1 r_XN2
    have e3 := specLeaseOk_any h e0 u w5
    rw [hb] at e3
    have HB := Lib.hid hb
    clear hb
    refine (e3).mono ?_
    rintro e w6 ⟨rfl, b6⟩
    clear e3
    have XN_6 := XN_5.below b6
    clear XN_5
    have r_6 := r_5.below b6
    clear r_5
    have XB_6 := XB_5.below b6
    clear XB_5
    have F_6 := bthen F_5 b6
    have hf : freeAtB h e0 u t = false := by unfold freeAtB; rw [HB.out]; rfl
    have c9 := FreeAt_any h e0 u t w6
    rw [hf] at c9
    clear hf
    have lt_XN := XN_6.lt
    have r_XN0 := XN_6.cell 0
    have r_XN1 := XN_6.cell 1
    have r_XN2 := XN_6.cell 2
    simp only [List.getElem?_toArray, List.getElem?_cons_zero, List.getElem?_cons_succ] at r_XN0 r_XN1 r_XN2
    go_wp2_with fail
    refine (c9).mono ?_
    rintro e w7 ⟨rfl, b7⟩
    have XN_7 := XN_6.below b7
    clear XN_6
    have r_7 := r_6.below b7
    clear r_6
    have XB_7 := XB_6.below b7
    clear XB_6
    have F_7 := bthen F_6 b7
    go_wp2
    go_ret
    exact ⟨rfl, F_7⟩
  | true =>
    have hv : leaseRowL h e0 u = [h, e0, u] := by unfold leaseRowL; rw [hb]; rfl
    go_wp2_with fail
    refine calls_named ?_
    rintro w2 hw2
    have XN_1 : Blk w2 w1.heap.size 28 #[.int .i64 h, .int .i64 e0, .int .i64 u] := by rw [hw2]; exact (Blk.new _ _ _)
    have b2 : Below w1.heap.size w1 w2 := by rw [hw2]; (repeat' (first | (with_reducible exact Below.refl _ _) | (with_reducible assumption) | (with_reducible refine Below.alloc ?_ ?_ _) | (with_reducible refine Below.drew ?_) | (with_reducible refine Below.setCell ?_ ?_ _) | (with_reducible refine bstep (by assumption) ?_ ?_) | (with_reducible exact Nat.le_refl _) | omega | (simp [*]; done) | (simp [*]; omega)))
    clear hw2
    have F_2 := bthen F_1 b2
    have XN_2 := XN_1
    have e1 := LeaseRow_any h e0 u w2
    rw [hv] at e1
    clear hv
    refine (e1).mono ?_
    rintro e w3 ⟨A_r, c_r, rfl, R_r, b3⟩
    clear e1
    have G_r : w.heap.size ≤ w2.heap.size := F_2.size
    have XN_3 := XN_2.below b3
    clear XN_2
    have F_3 := bthen F_2 b3
    have r_3 := R_r
    clear R_r
    have hr : rowLeaseL [h, e0, u] = ((h, e0, u), true) := by unfold rowLeaseL; simp [hb]
    have e2 := RowLease_any A_r 3 c_r [h, e0, u] w3 r_3.sl (by simp [maxLen])
    rw [hr] at e2
    clear hr
    go_wp2_with fail
    refine (e2).mono ?_
    rintro e w4 ⟨rfl, b4⟩
    clear e2
    have XN_4 := XN_3.below b4
    clear XN_3
    have r_4 := r_3.below b4
    clear r_3
    have F_4 := bthen F_3 b4
    have lt_XN := XN_4.lt
    have r_XN0 := XN_4.cell 0
    have r_XN1 := XN_4.cell 1
    have r_XN2 := XN_4.cell 2
    simp only [List.getElem?_toArray, List.getElem?_cons_zero, List.getElem?_cons_succ] at r_XN0 r_XN1 r_XN2
    go_wp2_with fail
    refine calls_named ?_
    rintro w5 hw5
    have XB_4 : Blk w5 w4.heap.size 28 #[.int .i64 h, .int .i64 e0, .int .i64 u] := by rw [hw5]; exact (Blk.new _ _ _)
    have b5 : Below w4.heap.size w4 w5 := by rw [hw5]; (repeat' (first | (with_reducible exact Below.refl _ _) | (with_reducible assumption) | (with_reducible refine Below.alloc ?_ ?_ _) | (with_reducible refine Below.drew ?_) | (with_reducible refine Below.setCell ?_ ?_ _) | (with_reducible refine bstep (by assumption) ?_ ?_) | (with_reducible exact Nat.le_refl _) | omega | (simp [*]; done) | (simp [*]; omega)))
    clear hw5
    have XN_5 := XN_4.below b5
    clear XN_4
    have r_5 := r_4.below b5
    clear r_4
    have F_5 := bthen F_4 b5
    have XB_5 := XB_4
    clear lt_XN r_XN0 r_XN1 r_XN2
    have e3 := specLeaseOk_any h e0 u w5
    rw [hb] at e3
    have HB := Lib.hid hb
    clear hb
    refine (e3).mono ?_
    rintro e w6 ⟨rfl, b6⟩
    clear e3
    have XN_6 := XN_5.below b6
    clear XN_5
    have r_6 := r_5.below b6
    clear r_5
    have XB_6 := XB_5.below b6
    clear XB_5
    have F_6 := bthen F_5 b6
    have lt_XB := XB_6.lt
    have r_XB0 := XB_6.cell 0
    have r_XB1 := XB_6.cell 1
    have r_XB2 := XB_6.cell 2
    simp only [List.getElem?_toArray, List.getElem?_cons_zero, List.getElem?_cons_succ] at r_XB0 r_XB1 r_XB2
    have lt_XN := XN_6.lt
    have r_XN0 := XN_6.cell 0
    have r_XN1 := XN_6.cell 1
    have r_XN2 := XN_6.cell 2
    simp only [List.getElem?_toArray, List.getElem?_cons_zero, List.getElem?_cons_succ] at r_XN0 r_XN1 r_XN2
    by_cases h1 : t < 0
    · skip
      have hf : freeAtB h e0 u t = false := by
        have : inB t 0 1000000 = false := by
          rw [Bool.eq_false_iff]
          intro h
          have := (inB_iff _ _ _).1 h
          omega
        unfold freeAtB
        rw [this]
        simp
      have e9 := FreeAt_any h e0 u t w6
      rw [hf] at e9
      clear hf
      go_wp2_with fail
      refine (e9).mono ?_
      rintro e w7 ⟨rfl, b7⟩
      clear e9
      have XN_7 := XN_6.below b7
      clear XN_6
      have r_7 := r_6.below b7
      clear r_6
      have XB_7 := XB_6.below b7
      clear XB_6
      have F_7 := bthen F_6 b7
      go_wp2
      go_ret
      exact ⟨rfl, F_7⟩
    by_cases h2 : 1000000 < t
    · skip
      have hf : freeAtB h e0 u t = false := by
        have : inB t 0 1000000 = false := by
          rw [Bool.eq_false_iff]
          intro h
          have := (inB_iff _ _ _).1 h
          omega
        unfold freeAtB
        rw [this]
        simp
      have e9 := FreeAt_any h e0 u t w6
      rw [hf] at e9
      clear hf
      go_wp2_with fail
      refine (e9).mono ?_
      rintro e w7 ⟨rfl, b7⟩
      clear e9
      have XN_7 := XN_6.below b7
      clear XN_6
      have r_7 := r_6.below b7
      clear r_6
      have XB_7 := XB_6.below b7
      clear XB_6
      have F_7 := bthen F_6 b7
      go_wp2
      go_ret
      exact ⟨rfl, F_7⟩
    have hin : inB t 0 1000000 = true := (inB_iff _ _ _).2 (by omega)
    have hf1 : freeAtB h e0 u t = freeB h u t := by unfold freeAtB; rw [HB.out, hin]; rfl
    have hf2 : holdsB h e0 u h e0 t = !freeB h u t := by
      unfold holdsB freeB
      rw [HB.out, hin]
      by_cases a : h = 0 <;> by_cases b : u ≤ t <;> simp [a, b] <;> omega
    have c1 := fun w9 => FreeAt_any h e0 u t w9
    have c2 := fun w9 => HoldsAt_any h e0 u h e0 t w9
    rw [hf1] at c1
    rw [hf2] at c2
    clear hf1 hf2 hin
    clear lt_XN r_XN0 r_XN1 r_XN2
    generalize freeB h u t = fb at c1 c2
    cases fb with
    | true =>
      have d2 := c2
      clear c2
      have lt_XN := XN_6.lt
      have r_XN0 := XN_6.cell 0
      have r_XN1 := XN_6.cell 1
      have r_XN2 := XN_6.cell 2
      simp only [List.getElem?_toArray, List.getElem?_cons_zero, List.getElem?_cons_succ] at r_XN0 r_XN1 r_XN2
      go_wp2_with fail
      have hS0_6 : ∀ b o, b < w6.heap.size → w6.cell? ⟨b, o, none⟩ = w6.cell? ⟨b, o, none⟩ := fun b o hb => rfl
      go_region_held_law (fun w' => ∀ b o, b < w6.heap.size → w'.cell? ⟨b, o, none⟩ = w6.cell? ⟨b, o, none⟩) (first | assumption | exact hS0_6) (first | (go_at_call 20; refine (c1 _).mono ?_; rintro e w7 ⟨rfl, b7⟩; replace b7 : Below w6.heap.size w6 w7 := ⟨b7.os, b7.tape, b7.output, b7.size, b7.block⟩; have F_7 : Below w.heap.size w w7 := bthen F_6 b7; have E_7 : Below w6.heap.size w6 w7 := b7; have hS7 : ∀ b o, b < w6.heap.size → w7.cell? ⟨b, o, none⟩ = w6.cell? ⟨b, o, none⟩ := fun b o hb => E_7.cell (p := ⟨b, o, none⟩) hb) | (go_at_call 18; refine (d2 _).mono ?_; rintro e w8 ⟨rfl, b8⟩; have F_8 : Below w.heap.size w w8 := bthen F_7 b8; have E_8 : Below w6.heap.size w6 w8 := bthen E_7 b8; have hS8 : ∀ b o, b < w6.heap.size → w8.cell? ⟨b, o, none⟩ = w6.cell? ⟨b, o, none⟩ := fun b o hb => E_8.cell (p := ⟨b, o, none⟩) hb))
      clear hS0_6 hS7 E_7 hS8 E_8
      clear lt_XN r_XN0 r_XN1 r_XN2
      have XN_7 := XN_6.below b7
      clear XN_6
      have r_7 := r_6.below b7
      clear r_6
      have XB_7 := XB_6.below b7
      clear XB_6
      have XN_8 := XN_7.below b8
      clear XN_7
      have r_8 := r_7.below b8
      clear r_7
      have XB_8 := XB_7.below b8
      clear XB_7
      go_wp2
      go_ret
      exact ⟨rfl, F_8⟩
    | false =>
      have d2 := c2
      clear c2
      have lt_XN := XN_6.lt
      have r_XN0 := XN_6.cell 0
      have r_XN1 := XN_6.cell 1
      have r_XN2 := XN_6.cell 2
      simp only [List.getElem?_toArray, List.getElem?_cons_zero, List.getElem?_cons_succ] at r_XN0 r_XN1 r_XN2
      go_wp2_with fail
      have hS0_6 : ∀ b o, b < w6.heap.size → w6.cell? ⟨b, o, none⟩ = w6.cell? ⟨b, o, none⟩ := fun b o hb => rfl
      go_region_held_law (fun w' => ∀ b o, b < w6.heap.size → w'.cell? ⟨b, o, none⟩ = w6.cell? ⟨b, o, none⟩) (first | assumption | exact hS0_6) (first | (go_at_call 20; refine (c1 _).mono ?_; rintro e w7 ⟨rfl, b7⟩; replace b7 : Below w6.heap.size w6 w7 := ⟨b7.os, b7.tape, b7.output, b7.size, b7.block⟩; have F_7 : Below w.heap.size w w7 := bthen F_6 b7; have E_7 : Below w6.heap.size w6 w7 := b7; have hS7 : ∀ b o, b < w6.heap.size → w7.cell? ⟨b, o, none⟩ = w6.cell? ⟨b, o, none⟩ := fun b o hb => E_7.cell (p := ⟨b, o, none⟩) hb) | (go_at_call 18; refine (d2 _).mono ?_; rintro e w8 ⟨rfl, b8⟩; have F_8 : Below w.heap.size w w8 := bthen F_7 b8; have E_8 : Below w6.heap.size w6 w8 := bthen E_7 b8; have hS8 : ∀ b o, b < w6.heap.size → w8.cell? ⟨b, o, none⟩ = w6.cell? ⟨b, o, none⟩ := fun b o hb => E_8.cell (p := ⟨b, o, none⟩) hb))
      clear hS0_6 hS7 E_7 hS8 E_8
      clear lt_XN r_XN0 r_XN1 r_XN2
      have XN_7 := XN_6.below b7
      clear XN_6
      have r_7 := r_6.below b7
      clear r_6
      have XB_7 := XB_6.below b7
      clear XB_6
      have XN_8 := XN_7.below b8
      clear XN_7
      have r_8 := r_7.below b8
      clear r_7
      have XB_8 := XB_7.below b8
      clear XB_7
      go_wp2
      go_ret
      exact ⟨rfl, F_8⟩
end Go.Proofs.Ytgpllffiahccjaa

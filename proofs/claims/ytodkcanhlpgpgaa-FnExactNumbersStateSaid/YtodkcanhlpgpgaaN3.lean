/- The reference's NumbersState: where the row has no shape. -/
import Derived.Test.YtodkcanhlpgpgaaN1
import Derived.Test.YtodkcanhlpgpgaaC1
namespace Go.Proofs.Ytodkcanhlpgpgaa
set_option linter.unusedSimpArgs false
set_option linter.unusedVariables false
attribute [local go_sem] n_lt2 n_lt3 n_lt4 n_le2 n_le3
open Go.RowKit
attribute [local go_sem] Ext.cell Ext.frozen
set_option maxRecDepth 100000 in
set_option maxHeartbeats 8000000 in
theorem specNumbersState_nil (A : Option Addr) (n cap : Nat) (zs : List Int) (w : World) (hS : Sl w 1 A n zs) (hn : n ≤ maxLen) (hno0 : ∀ p q, ¬ Shape zs p q) :
    Calls Try.prog 28 #[.slice A n cap] w (RetStB w (numR zs).1 (numR zs).2) := by
  rw [numR_shapeless hno0]
  have hlen := hS.len
  have hlen2 : zs.length = n := by omega
  unfold maxLen at hn
  by_cases h7 : n < 7
  · have h7i : (n : Int) < 7 := by omega
    clear hS
    go_enter Try.func28, Try.ntmps28
    go_wp2_with ((go_at_call 37; refine (l1In_any _ _ _ _).mono ?_; rintro e w' ⟨rfl, rfl⟩))
    refine bodyPost_ret (v := .tuple #[.agg #[.int .i64 0, .int .i64 0, .slice none 0 0, .slice none 0 0, .int .i64 0, .int .i64 0, .int .i64 0], .bool false]) (by simp [results, Try.results28, go_sem, *]) rfl (retSt_nil (by (repeat' (first | (with_reducible exact Below.refl _ _) | (with_reducible assumption) | (with_reducible refine Below.alloc ?_ ?_ _) | (with_reducible refine Below.drew ?_) | (with_reducible refine Below.setCell ?_ ?_ _) | (with_reducible refine bstep (by assumption) ?_ ?_) | (with_reducible exact Nat.le_refl _) | omega | (simp [*]; done) | (simp [*]; omega)))))
  have h7i : ¬ (n : Int) < 7 := by omega
  by_cases h67 : 67 < n
  · have h67i : (67 : Int) < (n : Int) := by omega
    clear hS
    go_enter Try.func28, Try.ntmps28
    go_wp2_with ((go_at_call 37; refine (l1In_any _ _ _ _).mono ?_; rintro e w' ⟨rfl, rfl⟩))
    refine bodyPost_ret (v := .tuple #[.agg #[.int .i64 0, .int .i64 0, .slice none 0 0, .slice none 0 0, .int .i64 0, .int .i64 0, .int .i64 0], .bool false]) (by simp [results, Try.results28, go_sem, *]) rfl (retSt_nil (by (repeat' (first | (with_reducible exact Below.refl _ _) | (with_reducible assumption) | (with_reducible refine Below.alloc ?_ ?_ _) | (with_reducible refine Below.drew ?_) | (with_reducible refine Below.setCell ?_ ?_ _) | (with_reducible refine bstep (by assumption) ?_ ?_) | (with_reducible exact Nat.le_refl _) | omega | (simp [*]; done) | (simp [*]; omega)))))
  have h67i : ¬ (67 : Int) < (n : Int) := by omega
  obtain ⟨b, off, rfl, hb, hc⟩ := hS.at_ (by omega)
  have hc2 := hc 2 (by omega)
  have hx : (2 : Int) < (n : Int) := by omega
  obtain ⟨z2, hz2⟩ : ∃ x, zs.getD 2 0 = x := ⟨_, rfl⟩
  rw [hz2] at hc2
  cases hin : inB z2 0 10 with
  | false =>
    clear hS hc hlen
    go_enter Try.func28, Try.ntmps28
    go_wp2_with ((go_at_call 37; refine (l1In_any _ _ _ _).mono ?_; rintro e w' ⟨rfl, rfl⟩))
    refine bodyPost_ret (v := .tuple #[.agg #[.int .i64 0, .int .i64 0, .slice none 0 0, .slice none 0 0, .int .i64 0, .int .i64 0, .int .i64 0], .bool false]) (by simp [results, Try.results28, go_sem, *]) rfl (retSt_nil (by (repeat' (first | (with_reducible exact Below.refl _ _) | (with_reducible assumption) | (with_reducible refine Below.alloc ?_ ?_ _) | (with_reducible refine Below.drew ?_) | (with_reducible refine Below.setCell ?_ ?_ _) | (with_reducible refine bstep (by assumption) ?_ ?_) | (with_reducible exact Nat.le_refl _) | omega | (simp [*]; done) | (simp [*]; omega)))))
  | true =>
    have hr := (inB_iff _ _ _).1 hin
    obtain ⟨p, rfl⟩ : ∃ p : Nat, z2 = (p : Int) := ⟨z2.toNat, by omega⟩
    have hp10 : p ≤ 10 := by omega
    obtain ⟨at1, hat⟩ : ∃ x : Nat, x = 3 + 2 * p := ⟨_, rfl⟩
    have hw1 : IntKind.i64.wrap (2 * (p : Int)) = 2 * (p : Int) := by rw [IntKind.wrap_i64]; omega
    have hw2 : IntKind.i64.wrap (3 + 2 * (p : Int)) = (at1 : Int) := by rw [IntKind.wrap_i64]; omega
    have HAT := Lib.hid hat
    by_cases hge : n ≤ at1
    · have hgei : (n : Int) ≤ (at1 : Int) := by omega
      clear hS hc hlen hr hat hge
      go_enter Try.func28, Try.ntmps28
      go_wp2_with ((go_at_call 37; refine (l1In_any _ _ _ _).mono ?_; rintro e w' ⟨rfl, rfl⟩))
      refine bodyPost_ret (v := .tuple #[.agg #[.int .i64 0, .int .i64 0, .slice none 0 0, .slice none 0 0, .int .i64 0, .int .i64 0, .int .i64 0], .bool false]) (by simp [results, Try.results28, go_sem, *]) rfl (retSt_nil (by (repeat' (first | (with_reducible exact Below.refl _ _) | (with_reducible assumption) | (with_reducible refine Below.alloc ?_ ?_ _) | (with_reducible refine Below.drew ?_) | (with_reducible refine Below.setCell ?_ ?_ _) | (with_reducible refine bstep (by assumption) ?_ ?_) | (with_reducible exact Nat.le_refl _) | omega | (simp [*]; done) | (simp [*]; omega)))))
    have hgei : ¬ (n : Int) ≤ (at1 : Int) := by omega
    have hlti : (at1 : Int) < (n : Int) := by omega
    have hc3 := hc at1 (by omega)
    obtain ⟨z3, hz3⟩ : ∃ x, zs.getD at1 0 = x := ⟨_, rfl⟩
    rw [hz3] at hc3
    cases hin2 : inB z3 0 8 with
    | false =>
      clear hS hc hlen hr hat
      go_enter Try.func28, Try.ntmps28
      go_wp2_with ((go_at_call 37; refine (l1In_any _ _ _ _).mono ?_; rintro e w' ⟨rfl, rfl⟩))
      refine bodyPost_ret (v := .tuple #[.agg #[.int .i64 0, .int .i64 0, .slice none 0 0, .slice none 0 0, .int .i64 0, .int .i64 0, .int .i64 0], .bool false]) (by simp [results, Try.results28, go_sem, *]) rfl (retSt_nil (by (repeat' (first | (with_reducible exact Below.refl _ _) | (with_reducible assumption) | (with_reducible refine Below.alloc ?_ ?_ _) | (with_reducible refine Below.drew ?_) | (with_reducible refine Below.setCell ?_ ?_ _) | (with_reducible refine bstep (by assumption) ?_ ?_) | (with_reducible exact Nat.le_refl _) | omega | (simp [*]; done) | (simp [*]; omega)))))
    | true =>
      have hr2 := (inB_iff _ _ _).1 hin2
      obtain ⟨q, rfl⟩ : ∃ q : Nat, z3 = (q : Int) := ⟨z3.toNat, by omega⟩
      have hq8 : q ≤ 8 := by omega
      have hw3 : IntKind.i64.wrap ((at1 : Int) + 1) = (at1 : Int) + 1 := by rw [IntKind.wrap_i64]; omega
      have hw4 : IntKind.i64.wrap (5 * (q : Int)) = 5 * (q : Int) := by rw [IntKind.wrap_i64]; omega
      have hw5 : IntKind.i64.wrap ((at1 : Int) + 1 + 5 * (q : Int)) = (at1 : Int) + 1 + 5 * (q : Int) := by rw [IntKind.wrap_i64]; omega
      have hw6 : IntKind.i64.wrap ((at1 : Int) + 1 + 5 * (q : Int) + 3) = (at1 : Int) + 1 + 5 * (q : Int) + 3 := by rw [IntKind.wrap_i64]; omega
      have hne : ¬ (at1 : Int) + 1 + 5 * (q : Int) + 3 = (n : Int) := fun he => hno0 p q ⟨hp10, hq8, by omega, hz2, by rw [show 3 + 2 * p = at1 by omega]; exact hz3⟩
      have hneb : ((at1 : Int) + 1 + 5 * (q : Int) + 3 == (n : Int)) = false := by rw [beqI]; exact decide_eq_false hne
      clear hS hc hlen hr hr2 hat hne
      go_enter Try.func28, Try.ntmps28
      go_wp2_with ((go_at_call 37; refine (l1In_any _ _ _ _).mono ?_; rintro e w' ⟨rfl, rfl⟩))
      refine bodyPost_ret (v := .tuple #[.agg #[.int .i64 0, .int .i64 0, .slice none 0 0, .slice none 0 0, .int .i64 0, .int .i64 0, .int .i64 0], .bool false]) (by simp [results, Try.results28, go_sem, *]) rfl (retSt_nil (by (repeat' (first | (with_reducible exact Below.refl _ _) | (with_reducible assumption) | (with_reducible refine Below.alloc ?_ ?_ _) | (with_reducible refine Below.drew ?_) | (with_reducible refine Below.setCell ?_ ?_ _) | (with_reducible refine bstep (by assumption) ?_ ?_) | (with_reducible exact Nat.le_refl _) | omega | (simp [*]; done) | (simp [*]; omega)))))
end Go.Proofs.Ytodkcanhlpgpgaa

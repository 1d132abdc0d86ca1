/- The law's own helpers on Client: mark, held. -/
import Derived.Test.YtbcpcddmekoaeaaCl1
import Derived.Test.YtbcpcddmekoaeaaWr2
namespace Go.Proofs.Ytbcpcddmekoaeaa
set_option linter.unusedSimpArgs false
set_option linter.unusedVariables false
attribute [local go_sem] n_lt2 n_lt3 n_lt4 n_le2 n_le3
open Go.RowKit
attribute [local go_sem] Ext.cell Ext.frozen
set_option maxHeartbeats 2000000 in
theorem markClient_any (lo : Nat) (A : Option Addr) (n c : Nat) (B : Option Addr) (m d : Nat) (i0 t0 : Int) (zp zq : List Int) (k0 : Int) (w : World) (hP : Row w lo 80 7 A n c zp) (hQ : Row w lo 72 4 B m d zq) (hap : ∀ a b, A = some a → B = some b → a.block ≠ b.block) (hn : n ≤ 1048576) (hm : m ≤ 1048576) (hk0 : 0 ≤ k0) (hk1 : k0 ≤ 100000000) :
    Calls Try.prog 31 #[.agg #[.int .i64 i0, .slice A n c, .slice B m d, .int .i64 t0], .int .i64 k0] w (RetMark2 w lo 80 7 A n c 72 4 B m d k0) := by
  have HP := Lib.hid hP
  have HQ := Lib.hid hQ
  have HAP := Lib.hid hap
  have PL := Lib.hid hP.lt
  have QL := Lib.hid hQ.lt
  clear hP hQ hap
  go_enter Try.func31, Try.ntmps31
  go_wp2_with fail
  refine calls_named ?_
  rintro v0 hv0
  have f0 : Below w.heap.size w v0 := by rw [hv0]; (repeat' (first | (with_reducible exact Below.refl _ _) | (with_reducible assumption) | (with_reducible refine Below.alloc ?_ ?_ _) | (with_reducible refine Below.drew ?_) | (with_reducible refine Below.setCell ?_ ?_ _) | (with_reducible refine bstep (by assumption) ?_ ?_) | (with_reducible exact Nat.le_refl _) | omega | (simp [*]; done) | (simp [*]; omega)))
  have Ha_0 : Hid (Blk v0 w.heap.size 31 #[.int .i64 i0, .slice A n c, .slice B m d, .int .i64 t0]) := by rw [hv0]; exact Blk.new_at _ _ _ _ (by simp)
  have HP_0 := Lib.hid (HP.out.below f0)
  have HQ_0 := Lib.hid (HQ.out.below f0)
  clear hv0
  refine (markWantS_any lo A n c zp k0 v0 HP_0.out hn hk0 (by omega)).mono ?_
  rintro e v1 ⟨rfl, R1, W1⟩
  have HP_1 := Lib.hid R1
  have HQ_1 := Lib.hid (HQ_0.out.wrote W1 (apart_symm HAP.out))
  have Ha_1 := Lib.hid (Ha_0.out.wroteA W1 (fun a ha e => by have := PL.out a ha; omega))
  have HW1 := Lib.hid W1
  clear R1 W1 Ha_0 HP_0 HQ_0
  have lt_2 := Ha_1.out.lt
  have r_2 : v1.cell? ⟨w.heap.size, 2, none⟩ = some (.slice B m d) := Ha_1.out.cell 2
  go_wp2_with fail
  refine (markGotS_any lo B m d zq _ v1 HQ_1.out hm (by omega) (by omega)).mono ?_
  rintro e v2 ⟨rfl, R2, W2⟩
  have HP_2 := Lib.hid (HP_1.out.wrote W2 HAP.out)
  have HQ_2 := Lib.hid R2
  have HWW := Lib.hid (Wr2.of f0 HW1.out W2)
  clear R2 W2 lt_2 r_2
  go_wp2
  go_ret
  exact ⟨ret_int (by omega), HP_2.out, HQ_2.out, HWW.out⟩
set_option maxHeartbeats 2000000 in
theorem heldClient_any (A : Option Addr) (n c : Nat) (B : Option Addr) (m d : Nat) (i0 t0 : Int) (k0 : Int) (w : World) (hP : Sl w 7 A n (marks k0 (n * 7))) (hQ : Sl w 4 B m (marks (k0 + (n * 7 : Nat)) (m * 4))) (hn : n ≤ 1048576) (hm : m ≤ 1048576) (hk0 : 0 ≤ k0) (hk1 : k0 ≤ 100000000) :
    Calls Try.prog 32 #[.agg #[.int .i64 i0, .slice A n c, .slice B m d, .int .i64 t0], .int .i64 k0] w fun e w' => e = .returned (.int .i64 (k0 + (n * 7 : Nat) + (m * 4 : Nat))) ∧ Below w.heap.size w w' := by
  have HP := Lib.hid hP
  have HQ := Lib.hid hQ
  clear hP hQ
  go_enter Try.func32, Try.ntmps32
  go_wp2_with fail
  refine calls_named ?_
  rintro v0 hv0
  have f0 : Below w.heap.size w v0 := by rw [hv0]; (repeat' (first | (with_reducible exact Below.refl _ _) | (with_reducible assumption) | (with_reducible refine Below.alloc ?_ ?_ _) | (with_reducible refine Below.drew ?_) | (with_reducible refine Below.setCell ?_ ?_ _) | (with_reducible refine bstep (by assumption) ?_ ?_) | (with_reducible exact Nat.le_refl _) | omega | (simp [*]; done) | (simp [*]; omega)))
  have Ha_0 : Hid (Blk v0 w.heap.size 31 #[.int .i64 i0, .slice A n c, .slice B m d, .int .i64 t0]) := by rw [hv0]; exact Blk.new_at _ _ _ _ (by simp)
  have HP_0 := Lib.hid (HP.out.below f0)
  have HQ_0 := Lib.hid (HQ.out.below f0)
  clear hv0
  refine (heldWantS_any A n c k0 v0 HP_0.out hn hk0 (by omega)).mono ?_
  rintro e v' ⟨rfl, rfl⟩
  have lt_2 := Ha_0.out.lt
  have r_2 : v0.cell? ⟨w.heap.size, 2, none⟩ = some (.slice B m d) := Ha_0.out.cell 2
  have hh : ¬ (k0 + ((n * 7 : Nat) : Int) < 0) := by omega
  go_wp2_with fail
  refine (heldGotS_any B m d _ v0 HQ_0.out hm (by omega) (by omega)).mono ?_
  rintro e v' ⟨rfl, rfl⟩
  have hh2 : ¬ (k0 + ((n * 7 : Nat) : Int) + ((m * 4 : Nat) : Int) < 0) := by omega
  go_wp2
  go_ret
  exact ⟨ret_int (by omega), f0⟩
end Go.Proofs.Ytbcpcddmekoaeaa

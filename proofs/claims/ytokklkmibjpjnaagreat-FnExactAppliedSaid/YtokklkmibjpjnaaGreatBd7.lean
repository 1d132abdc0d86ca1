/- Part 7 of what the claim rests on: Wr2, StM. No condition of its own. -/
import Derived.Test.YtokklkmibjpjnaaGreatBd6
namespace Go.Proofs.YtokklkmibjpjnaaGreat
set_option linter.unusedSimpArgs false
set_option linter.unusedVariables false
attribute [local go_sem] n_lt2 n_lt3 n_lt4 n_le2 n_le3
open Go.RowKit

/-- Only the rows at A and B (and new memory) have been written. -/
structure Wr2 (w w' : World) (A B : Option Addr) : Prop where
  os : w'.os = w.os
  tape : w'.tape = w.tape
  output : w'.output = w.output
  size : w.heap.size ≤ w'.heap.size
  block : ∀ k, k < w.heap.size → (∀ a, A = some a → a.block ≠ k) → (∀ b, B = some b → b.block ≠ k) → w'.heap[k]? = w.heap[k]?
theorem ne_map {A : Option Addr} {k : Nat} (h : ∀ a, A = some a → a.block ≠ k) : some k ≠ A.map (·.block) := by
  cases A with
  | none => simp
  | some a => simp only [Option.map_some, ne_eq, Option.some.injEq]; exact fun e => h a rfl e.symm
theorem Wr2.of {w v v1 w' : World} {A B : Option Addr} (h0 : Below w.heap.size w v) (h1 : Wrote v v1 A) (h2 : Wrote v1 w' B) : Wr2 w w' A B :=
  ⟨h2.os.trans (h1.os.trans h0.os), h2.tape.trans (h1.tape.trans h0.tape), h2.output.trans (h1.output.trans h0.output), Nat.le_trans h0.size (Nat.le_trans h1.size h2.size),
    fun k hk ha hb => ((World.grownBy.block h2 k (Nat.lt_of_lt_of_le (Nat.lt_of_lt_of_le hk h0.size) h1.size) (ne_map hb)).trans (World.grownBy.block h1 k (Nat.lt_of_lt_of_le hk h0.size) (ne_map ha))).trans (h0.block k hk)⟩
theorem Wr2.below {L : Nat} {a w w' : World} {A B : Option Addr} (h : Wr2 w w' A B) (h1 : Below L a w) (hL : L ≤ w.heap.size) (hA : ∀ x, A = some x → L ≤ x.block) (hB : ∀ x, B = some x → L ≤ x.block) : Below L a w' :=
  ⟨h.os.trans h1.os, h.tape.trans h1.tape, h.output.trans h1.output, Nat.le_trans h1.size h.size,
    fun k hk => (h.block k (Nat.lt_of_lt_of_le hk hL) (fun x hx => by have := hA x hx; omega) (fun x hx => by have := hB x hx; omega)).trans (h1.block k hk)⟩
theorem Row.wr2 {w w' : World} {lo : Nat} {e : TypeId} {s : Nat} {O A B : Option Addr} {n cap : Nat} {zs : List Int} (h : Row w lo e s O n cap zs) (hw : Wr2 w w' A B) (h1 : ∀ a b, O = some a → A = some b → a.block ≠ b.block) (h2 : ∀ a b, O = some a → B = some b → a.block ≠ b.block) : Row w' lo e s O n cap zs :=
  h.keep fun a ha => hw.block _ (h.lt a ha) (fun b hb e => h1 a b ha hb e.symm) (fun b hb e => h2 a b ha hb e.symm)
theorem Sl.wr2 {w w' : World} {s : Nat} {O A B : Option Addr} {n : Nat} {zs : List Int} (h : Sl w s O n zs) (hw : Wr2 w w' A B) (h1 : 0 < n → ∀ a b, O = some a → A = some b → a.block ≠ b.block) (h2 : 0 < n → ∀ a b, O = some a → B = some b → a.block ≠ b.block) : Sl w' s O n zs :=
  ⟨h.1, fun hn => by
    obtain ⟨b, off, rfl, hbl, hj⟩ := h.2 hn
    refine ⟨b, off, rfl, Nat.lt_of_lt_of_le hbl hw.size, fun j hjn => ?_⟩
    exact (World.cell?_of_block (a := ⟨b, off + j, none⟩) (hw.block b hbl (fun c hc e => h1 hn _ c rfl hc e.symm) (fun c hc e => h2 hn _ c rfl hc e.symm))).trans (hj j hjn)⟩
theorem Blk.wr2 {w w' : World} {g : Nat} {e : TypeId} {cs : Array Value} {A B : Option Addr} (h : Blk w g e cs) (hw : Wr2 w w' A B) (h1 : ∀ a, A = some a → a.block ≠ g) (h2 : ∀ a, B = some a → a.block ≠ g) : Blk w' g e cs :=
  (hw.block g h.lt h1 h2).trans h
theorem Blk.wroteA {w w' : World} {g : Nat} {e : TypeId} {cs : Array Value} {A : Option Addr} (h : Blk w g e cs) (hw : Wrote w w' A) (h1 : ∀ a, A = some a → a.block ≠ g) : Blk w' g e cs :=
  (World.grownBy.block hw g h.lt (ne_map h1)).trans h
/-- What mark leaves of a struct with two rows. -/
def RetMark2 (w : World) (lo E s : Nat) (A : Option Addr) (n c F t : Nat) (B : Option Addr) (m d : Nat) (k : Int) (e : Ending) (w' : World) : Prop :=
  e = .returned (.int .i64 (k + (n * s : Nat) + (m * t : Nat))) ∧ Row w' lo E s A n c (marks k (n * s)) ∧ Row w' lo F t B m d (marks (k + (n * s : Nat)) (m * t)) ∧ Wr2 w w' A B
end Go.Proofs.YtokklkmibjpjnaaGreat
namespace Go.Proofs.YtokklkmibjpjnaaGreat
set_option linter.unusedSimpArgs false
set_option linter.unusedVariables false
attribute [local go_sem] n_lt2 n_lt3 n_lt4 n_le2 n_le3
open Go.RowKit
attribute [local go_sem] Ext.cell Ext.frozen
set_option maxHeartbeats 2000000 in
theorem markState_any (lo : Nat) (A : Option Addr) (n c : Nat) (B : Option Addr) (m d : Nat) (i0 t0 l0 l1 l2 : Int) (zp zq : List Int) (k0 : Int) (w : World) (hP : Row w lo 106 2 A n c zp) (hQ : Row w lo 71 5 B m d zq) (hap : ∀ a b, A = some a → B = some b → a.block ≠ b.block) (hn : n ≤ 1048576) (hm : m ≤ 1048576) (hk0 : 0 ≤ k0) (hk1 : k0 ≤ 100000000) :
    Calls Tryz.prog 12 #[.agg #[.int .i64 i0, .int .i64 t0, .slice A n c, .slice B m d, .int .i64 l0, .int .i64 l1, .int .i64 l2], .int .i64 k0] w (RetMark2 w lo 106 2 A n c 71 5 B m d k0) := by
  have HP := Lib.hid hP
  have HQ := Lib.hid hQ
  have HAP := Lib.hid hap
  have PL := Lib.hid hP.lt
  have QL := Lib.hid hQ.lt
  clear hP hQ hap
  go_enter Tryz.func12, Tryz.ntmps12
  go_wp2_with fail
  refine calls_named ?_
  rintro v0 hv0
  have f0 : Below w.heap.size w v0 := by rw [hv0]; (repeat' (first | (with_reducible exact Below.refl _ _) | (with_reducible assumption) | (with_reducible refine Below.alloc ?_ ?_ _) | (with_reducible refine Below.drew ?_) | (with_reducible refine Below.setCell ?_ ?_ _) | (with_reducible refine bstep (by assumption) ?_ ?_) | (with_reducible exact Nat.le_refl _) | omega | (simp [*]; done) | (simp [*]; omega)))
  have Ha_0 : Hid (Blk v0 w.heap.size 37 #[.int .i64 i0, .int .i64 t0, .slice A n c, .slice B m d, .int .i64 l0, .int .i64 l1, .int .i64 l2]) := by rw [hv0]; exact Blk.new_at _ _ _ _ (by simp)
  have HP_0 := Lib.hid (HP.out.below f0)
  have HQ_0 := Lib.hid (HQ.out.below f0)
  clear hv0
  refine (markPairS_any lo A n c zp k0 v0 HP_0.out hn hk0 (by omega)).mono ?_
  rintro e v1 ⟨rfl, R1, W1⟩
  have HP_1 := Lib.hid R1
  have HQ_1 := Lib.hid (HQ_0.out.wrote W1 (apart_symm HAP.out))
  have Ha_1 := Lib.hid (Ha_0.out.wroteA W1 (fun a ha e => by have := PL.out a ha; omega))
  have HW1 := Lib.hid W1
  clear R1 W1 Ha_0 HP_0 HQ_0
  have lt_3 := Ha_1.out.lt
  have r_3 : v1.cell? ⟨w.heap.size, 3, none⟩ = some (.slice B m d) := Ha_1.out.cell 3
  go_wp2_with fail
  refine (markJobS_any lo B m d zq _ v1 HQ_1.out hm (by omega) (by omega)).mono ?_
  rintro e v2 ⟨rfl, R2, W2⟩
  have HP_2 := Lib.hid (HP_1.out.wrote W2 HAP.out)
  have HQ_2 := Lib.hid R2
  have HWW := Lib.hid (Wr2.of f0 HW1.out W2)
  clear R2 W2 lt_3 r_3
  go_wp2
  go_ret
  exact ⟨ret_int (by omega), HP_2.out, HQ_2.out, HWW.out⟩
set_option maxHeartbeats 2000000 in
theorem heldState_any (A : Option Addr) (n c : Nat) (B : Option Addr) (m d : Nat) (i0 t0 l0 l1 l2 : Int) (k0 : Int) (w : World) (hP : Sl w 2 A n (marks k0 (n * 2))) (hQ : Sl w 5 B m (marks (k0 + (n * 2 : Nat)) (m * 5))) (hn : n ≤ 1048576) (hm : m ≤ 1048576) (hk0 : 0 ≤ k0) (hk1 : k0 ≤ 100000000) :
    Calls Tryz.prog 13 #[.agg #[.int .i64 i0, .int .i64 t0, .slice A n c, .slice B m d, .int .i64 l0, .int .i64 l1, .int .i64 l2], .int .i64 k0] w fun e w' => e = .returned (.int .i64 (k0 + (n * 2 : Nat) + (m * 5 : Nat))) ∧ Below w.heap.size w w' := by
  have HP := Lib.hid hP
  have HQ := Lib.hid hQ
  clear hP hQ
  go_enter Tryz.func13, Tryz.ntmps13
  go_wp2_with fail
  refine calls_named ?_
  rintro v0 hv0
  have f0 : Below w.heap.size w v0 := by rw [hv0]; (repeat' (first | (with_reducible exact Below.refl _ _) | (with_reducible assumption) | (with_reducible refine Below.alloc ?_ ?_ _) | (with_reducible refine Below.drew ?_) | (with_reducible refine Below.setCell ?_ ?_ _) | (with_reducible refine bstep (by assumption) ?_ ?_) | (with_reducible exact Nat.le_refl _) | omega | (simp [*]; done) | (simp [*]; omega)))
  have Ha_0 : Hid (Blk v0 w.heap.size 37 #[.int .i64 i0, .int .i64 t0, .slice A n c, .slice B m d, .int .i64 l0, .int .i64 l1, .int .i64 l2]) := by rw [hv0]; exact Blk.new_at _ _ _ _ (by simp)
  have HP_0 := Lib.hid (HP.out.below f0)
  have HQ_0 := Lib.hid (HQ.out.below f0)
  clear hv0
  refine (heldPairS_any A n c k0 v0 HP_0.out hn hk0 (by omega)).mono ?_
  rintro e v' ⟨rfl, rfl⟩
  have lt_3 := Ha_0.out.lt
  have r_3 : v0.cell? ⟨w.heap.size, 3, none⟩ = some (.slice B m d) := Ha_0.out.cell 3
  have hh : ¬ (k0 + ((n * 2 : Nat) : Int) < 0) := by omega
  go_wp2_with fail
  refine (heldJobS_any B m d _ v0 HQ_0.out hm (by omega) (by omega)).mono ?_
  rintro e v' ⟨rfl, rfl⟩
  have hh2 : ¬ (k0 + ((n * 2 : Nat) : Int) + ((m * 5 : Nat) : Int) < 0) := by omega
  go_wp2
  go_ret
  exact ⟨ret_int (by omega), f0⟩
end Go.Proofs.YtokklkmibjpjnaaGreat

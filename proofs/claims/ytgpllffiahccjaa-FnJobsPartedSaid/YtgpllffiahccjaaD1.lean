/- The reference's draws: the cursor over the bytes of a code. -/
import Derived.Test.YtgpllffiahccjaaDice
import Derived.Test.YtgpllffiahccjaaWr2
namespace Go.Proofs.Ytgpllffiahccjaa
set_option linter.unusedSimpArgs false
set_option linter.unusedVariables false
attribute [local go_sem] n_lt2 n_lt3 n_lt4 n_le2 n_le3
open Go.RowKit
attribute [local go_sem] Ext.cell Ext.frozen

/-- Block p is a cursor over bytes that lie ahead of it. -/
def LC (w : World) (p C : Nat) : Prop :=
  ∃ (A : Option Addr) (n cap : Nat) (bs : List Int) (i : Nat) (h : Int), i ≤ n ∧ n ≤ maxLen ∧ SlB w A n bs ∧ (0 < n → ∀ a, A = some a → a.block < p) ∧ Blk w p C #[.slice A n cap, .int .i64 (i : Nat), .int .i64 h]
theorem LC.lt {w : World} {p C : Nat} (h : LC w p C) : p < w.heap.size := by
  obtain ⟨A, n, cap, bs, i, x, _, _, _, _, K⟩ := h
  exact K.lt
theorem SlB.keep {w w' : World} {A : Option Addr} {n : Nat} {bs : List Int} (h : SlB w A n bs) (hs : w.heap.size ≤ w'.heap.size) (hk : 0 < n → ∀ a, A = some a → w'.heap[a.block]? = w.heap[a.block]?) : SlB w' A n bs :=
  ⟨h.1, h.2.1, fun hn => by
    obtain ⟨b, off, rfl, hbl, hj⟩ := h.2.2 hn
    exact ⟨b, off, rfl, Nat.lt_of_lt_of_le hbl hs, fun j hjn => (World.cell?_of_block (a := ⟨b, off + j, none⟩) (hk hn ⟨b, off, none⟩ rfl)).trans (hj j hjn)⟩⟩
theorem LC.keep {w w' : World} {p C : Nat} (h : LC w p C) (hs : w.heap.size ≤ w'.heap.size) (hk : ∀ i, i ≤ p → w'.heap[i]? = w.heap[i]?) : LC w' p C := by
  obtain ⟨A, n, cap, bs, i, x, hi, hn, hS, hA, K⟩ := h
  exact ⟨A, n, cap, bs, i, x, hi, hn, hS.keep hs (fun hn a ha => hk _ (Nat.le_of_lt (hA hn a ha))), hA, (hk p (Nat.le_refl _)).trans K⟩
theorem LC.below {w w' : World} {p C : Nat} (h : LC w p C) {lo : Nat} (hb : Below lo w w') (hp : p < lo) : LC w' p C :=
  h.keep hb.size (fun i hi => hb.block i (by omega))
theorem LC.wrote {w w' : World} {p C : Nat} {A : Option Addr} (h : LC w p C) (hw : Wrote w w' A) (hA : ∀ a, A = some a → p < a.block) : LC w' p C :=
  h.keep hw.size (fun i hi => World.grownBy.block hw i (Nat.lt_of_le_of_lt hi h.lt) (by
    cases A with
    | none => simp
    | some a => simp only [Option.map_some, ne_eq, Option.some.injEq]; have := hA a rfl; omega))
/-- A draw has come to a number with Q. -/
def RetI (w : World) (p C : Nat) (Q : Int → Prop) (e : Ending) (w' : World) : Prop := ∃ x, e = .returned (.int .i64 x) ∧ Q x ∧ LC w' p C ∧ Wrote w w' (some ⟨p, 0, none⟩)
def RetB (w : World) (p C : Nat) (e : Ending) (w' : World) : Prop := ∃ x : Bool, e = .returned (.bool x) ∧ LC w' p C ∧ Wrote w w' (some ⟨p, 0, none⟩)
/-- The frame of a draw, over more new memory. -/
theorem wrote_grow {w a b : World} {p lo : Nat} (h : Wrote w a (some ⟨p, 0, none⟩)) (hb : Below lo a b) (hlo : w.heap.size ≤ lo) : Wrote w b (some ⟨p, 0, none⟩) :=
  ⟨hb.os.trans h.os, hb.tape.trans h.tape, hb.output.trans h.output, Nat.le_trans h.size hb.size, fun i hi hn => (hb.block i (Nat.lt_of_lt_of_le hi hlo)).trans (h.block i hi hn)⟩
theorem LC.mk' {w w' : World} {p C : Nat} {A : Option Addr} {n cap : Nat} {bs : List Int} {i : Nat} {h : Int} (hS : SlB w A n bs) (hA : 0 < n → ∀ a, A = some a → a.block < p) (hn : n ≤ maxLen) (hi : i ≤ n) (hw : Wrote w w' (some ⟨p, 0, none⟩)) (K : Blk w' p C #[.slice A n cap, .int .i64 (i : Nat), .int .i64 h]) : LC w' p C :=
  ⟨A, n, cap, bs, i, h, hi, hn, hS.keep hw.size (fun hn' a ha => World.grownBy.block hw _ (by
    obtain ⟨b, off, hA', hb, _⟩ := hS.2.2 hn'
    rw [ha] at hA'
    obtain rfl := Option.some.inj hA'
    exact hb) (by have := hA hn' a ha; simp only [Option.map_some, ne_eq, Option.some.injEq]; omega)), hA, K⟩
theorem Wrote.trans' {w a b : World} {p : Nat} (h : Wrote w a (some ⟨p, 0, none⟩)) (h' : Wrote a b (some ⟨p, 0, none⟩)) : Wrote w b (some ⟨p, 0, none⟩) := wrote_trans h h'
theorem i64_and255 (y : Int) : 0 ≤ bits BinOp.and IntKind.i64 y 255 ∧ bits BinOp.and IntKind.i64 y 255 ≤ 255 := by
  have h : (BitVec.ofInt 64 y &&& BitVec.ofInt 64 255).toNat ≤ 255 := by
    rw [BitVec.toNat_and]
    exact Nat.le_trans Nat.and_le_right (by decide)
  show 0 ≤ IntKind.i64.wrap ((BitVec.ofInt 64 y &&& BitVec.ofInt 64 255).toNat : Int) ∧ IntKind.i64.wrap ((BitVec.ofInt 64 y &&& BitVec.ofInt 64 255).toNat : Int) ≤ 255
  rw [IntKind.wrap_i64]
  omega
/-- A cell of a literal of numbers. -/
theorem lit_cell {w : World} {g E : Nat} (zs : List Int) (K : Blk w g E (zs.map (Value.int .i64)).toArray) (k : Nat) (hk : k < zs.length) : ∃ v, w.cell? ⟨g, k, none⟩ = some (.int .i64 v) := by
  refine ⟨zs[k], ?_⟩
  rw [K.cell]
  simp [hk]
theorem LC.new {w w' : World} {p C : Nat} (h : LC w p C) (hb : Below w.heap.size w w') : LC w' p C := h.below hb h.lt
set_option maxRecDepth 100000 in
set_option maxHeartbeats 1600000 in
theorem l1New_any (A : Option Addr) (n cap : Nat) (bs : List Int) (w : World) (hS : SlB w A n bs) (hn : n ≤ 4096) :
    Calls Try.prog 78 #[.slice A n cap] w fun e w' => e = .returned (.pointer (some ⟨w.heap.size, 0, none⟩)) ∧ LC w' w.heap.size 139 ∧ Below w.heap.size w w' := by
  have HS := Lib.hid hS
  clear hS
  go_enter Try.func78, Try.ntmps78
  go_wp2
  go_loop [3, 4] (fun hv iv => ∃ (k : Nat) (h : Int), k ≤ n ∧ iv = .int .i64 (k : Nat) ∧ hv = .int .i64 h) (fun _ iv => n - (intOf iv).toNat)
  case atStart => exact ⟨0, _, Nat.zero_le _, rfl, rfl⟩
  case round =>
    obtain ⟨k, h, hk, rfl, rfl⟩ := hrel
    by_cases hlt : k < n
    · obtain ⟨b, off, rfl, hb, hcell⟩ := HS.out.2.2 (by omega)
      have hc := hcell k hlt
      generalize bs.getD k 0 = y at hc
      clear hcell
      go_wp2
      exact ⟨⟨k + 1, _, by omega, by go_num, rfl⟩, by simp [intOf]; omega⟩
    · go_wp2
      go_ret
      refine ⟨rfl, ⟨A, n, cap, bs, 0, h, Nat.zero_le _, by unfold maxLen; omega, HS.out.below ((Below.refl w.heap.size w).alloc (Nat.le_refl _) _), fun hn a ha => ?_, Blk.new _ _ _⟩, (Below.refl _ _).alloc (Nat.le_refl _) _⟩
      obtain ⟨b, off, hA, hb, _⟩ := HS.out.2.2 hn
      rw [ha] at hA
      obtain rfl := Option.some.inj hA
      exact hb
set_option maxRecDepth 100000 in
set_option maxHeartbeats 1600000 in
theorem l1Byte_any (p : Nat) (w : World) (hL : LC w p 139) :
    Calls Try.prog 140 #[.pointer (some ⟨p, 0, none⟩)] w (RetI w p 139 (fun x => 0 ≤ x ∧ x ≤ 255)) := by
  obtain ⟨A, n, cap, bs, i, h, hi, hn, hS, hA, K⟩ := hL
  have q0 : w.cell? ⟨p, 0, none⟩ = some (.slice A n cap) := K.cell 0
  have q1 : w.cell? ⟨p, 1, none⟩ = some (.int .i64 (i : Nat)) := K.cell 1
  have q2 : w.cell? ⟨p, 2, none⟩ = some (.int .i64 h) := K.cell 2
  have qf1 := K.frozen 1
  have qf2 := K.frozen 2
  have HK := Lib.hid K
  have HS := Lib.hid hS
  have HA := Lib.hid hA
  have hn0 := Lib.hid hn
  unfold maxLen at hn
  clear K hA
  by_cases hin : i < n
  · obtain ⟨b, off, rfl, hb, hcell⟩ := hS.2.2 (by omega)
    have hc := hcell i hin
    have hr := hS.range i
    have hbp : b ≠ p := Nat.ne_of_lt (HA.out (by omega) _ rfl)
    have hbp' : p ≠ b := Ne.symm hbp
    generalize bs.getD i 0 = y at hc hr
    obtain ⟨hy0, hy1⟩ := hr
    clear hcell hS
    have hi' : (i : Int) < (n : Int) := by omega
    have hdi : decide ((i : Int) < (n : Int)) = true := decide_eq_true hi'
    go_enter Try.func140, Try.ntmps140
    go_wp2
    go_quiet (fail)
    go_wp2
    go_quiet (fail)
    go_wp2
    go_quiet (fail)
    go_wp2
    go_ret
    have hw := fun a u v => wrote_setp (wrote_drewN (wrote_setp (wrote_refl w (some ⟨p, 0, none⟩)) 2 u) a) 1 v
    exact ⟨_, rfl, i64_and255 _, LC.mk' (i := i + 1) HS.out HA.out hn0.out (by omega) (hw _ _ _) (Blk.set_ (Blk.set_ HK.out 2 _) 1 (.int .i64 ((i : Int) + 1))), hw _ _ _⟩
  · have hi' : ¬ (i : Int) < (n : Int) := by omega
    have hdi : decide ((i : Int) < (n : Int)) = false := decide_eq_false hi'
    go_enter Try.func140, Try.ntmps140
    go_wp2
    go_quiet (fail)
    go_wp2
    go_quiet (fail)
    go_wp2
    go_ret
    have hw := fun a b u => wrote_drewN (wrote_drewN (wrote_setp (wrote_refl w (some ⟨p, 0, none⟩)) 2 u) a) b
    exact ⟨_, rfl, i64_and255 _, LC.mk' (i := i) HS.out HA.out hn0.out (by omega) (hw _ _ _) (Blk.set_ HK.out 2 _), hw _ _ _⟩
set_option maxRecDepth 100000 in
set_option maxHeartbeats 1600000 in
theorem l1Below_any (p : Nat) (m : Int) (w : World) (hL : LC w p 139) (hm : 0 < m) (hm' : m ≤ 256) :
    Calls Try.prog 104 #[.pointer (some ⟨p, 0, none⟩), .int .i64 m] w (RetI w p 139 (fun x => 0 ≤ x ∧ x < m)) := by
  have HL := Lib.hid hL
  clear hL
  go_enter Try.func104, Try.ntmps104
  go_wp2_with fail
  refine (l1Byte_any p w HL.out).mono ?_
  rintro e w1 ⟨x, rfl, ⟨hx0, hx1⟩, L1, W1⟩
  go_wp2
  go_ret
  exact ⟨_, rfl, ⟨Int.emod_nonneg _ (by omega), Int.emod_lt_of_pos _ hm⟩, L1, W1⟩
set_option maxRecDepth 100000 in
set_option maxHeartbeats 1600000 in
theorem l1Below_big (p : Nat) (m : Int) (w : World) (hL : LC w p 139) (hm : 256 < m) (hm' : m ≤ 10000000000) :
    Calls Try.prog 104 #[.pointer (some ⟨p, 0, none⟩), .int .i64 m] w (RetI w p 139 (fun x => 0 ≤ x ∧ x < m)) := by
  have HL := Lib.hid hL
  clear hL
  go_enter Try.func104, Try.ntmps104
  go_wp2_with fail
  refine (l1Byte_any p w HL.out).mono ?_
  rintro e w1 ⟨x, rfl, ⟨hx0, hx1⟩, L1, W1⟩
  go_wp2_with fail
  refine (l1Byte_any p w1 L1).mono ?_
  rintro e w2 ⟨y, rfl, ⟨hy0, hy1⟩, L2, W2⟩
  go_wp2_with fail
  refine (l1Byte_any p w2 L2).mono ?_
  rintro e w3 ⟨z, rfl, ⟨hz0, hz1⟩, L3, W3⟩
  go_wp2_with fail
  refine (l1Byte_any p w3 L3).mono ?_
  rintro e w4 ⟨u, rfl, ⟨hu0, hu1⟩, L4, W4⟩
  go_wp2
  go_ret
  exact ⟨_, rfl, ⟨Int.emod_nonneg _ (by omega), Int.emod_lt_of_pos _ (by omega)⟩, L4, wrote_trans (wrote_trans (wrote_trans W1 W2) W3) W4⟩
theorem l1Below_all (p : Nat) (m : Int) (w : World) (hL : LC w p 139) (hm : 0 < m) (hm' : m ≤ 10000000000) :
    Calls Try.prog 104 #[.pointer (some ⟨p, 0, none⟩), .int .i64 m] w (RetI w p 139 (fun x => 0 ≤ x ∧ x < m)) := by
  by_cases h : m ≤ 256
  · exact l1Below_any p m w hL hm h
  · exact l1Below_big p m w hL (by omega) hm'
set_option maxRecDepth 100000 in
theorem l1Once_any (p : Nat) (m : Int) (w : World) (hL : LC w p 139) (hm : 0 < m) (hm' : m ≤ 256) :
    Calls Try.prog 103 #[.pointer (some ⟨p, 0, none⟩), .int .i64 m] w (RetB w p 139) := by
  have HL := Lib.hid hL
  clear hL
  go_enter Try.func103, Try.ntmps103
  go_wp2_with fail
  refine (l1Below_any p m w HL.out hm hm').mono ?_
  rintro e w1 ⟨x, rfl, ⟨hx0, hx1⟩, L1, W1⟩
  go_wp2
  go_ret
  exact ⟨_, rfl, L1, W1⟩
set_option maxRecDepth 100000 in
theorem l1From_any (p : Nat) (a b : Int) (w : World) (hL : LC w p 139) (ha : -1000 ≤ a) (hab : a ≤ b) (hb : b ≤ a + 200) :
    Calls Try.prog 127 #[.pointer (some ⟨p, 0, none⟩), .int .i64 a, .int .i64 b] w (RetI w p 139 (fun _ => True)) := by
  have HL := Lib.hid hL
  clear hL
  go_enter Try.func127, Try.ntmps127
  go_wp2_with fail
  refine (l1Below_any p _ w HL.out (by omega) (by omega)).mono ?_
  rintro e w1 ⟨x, rfl, ⟨hx0, hx1⟩, L1, W1⟩
  go_wp2
  go_ret
  exact ⟨_, rfl, trivial, L1, W1⟩
theorem l1Min_any (a b : Int) (w : World) : Calls Try.prog 135 #[.int .i64 a, .int .i64 b] w fun e w' => e = .returned (.int .i64 (if a < b then a else b)) ∧ w = w' := by
  by_cases h : a < b
  · rw [if_pos h]
    go_enter Try.func135, Try.ntmps135
    go_wp2
    go_ret
    exact ⟨rfl, rfl⟩
  · rw [if_neg h]
    go_enter Try.func135, Try.ntmps135
    go_wp2
    go_ret
    exact ⟨rfl, rfl⟩
set_option maxRecDepth 100000 in
set_option maxHeartbeats 1600000 in
theorem l1Odd_any (p : Nat) (w : World) (hL : LC w p 139) :
    Calls Try.prog 134 #[.pointer (some ⟨p, 0, none⟩)] w (RetI w p 139 (fun _ => True)) := by
  have HL := Lib.hid hL
  have hp := hL.lt
  clear hL
  go_enter Try.func134, Try.ntmps134
  go_wp2_with fail
  refine calls_named ?_
  rintro v0 hv0
  have f0 : Below w.heap.size w v0 := by rw [hv0]; (repeat' (first | (with_reducible exact Below.refl _ _) | (with_reducible assumption) | (with_reducible refine Below.alloc ?_ ?_ _) | (with_reducible refine Below.drew ?_) | (with_reducible refine Below.setCell ?_ ?_ _) | (with_reducible refine bstep (by assumption) ?_ ?_) | (with_reducible exact Nat.le_refl _) | omega | (simp [*]; done) | (simp [*]; omega)))
  have K0 := Lib.hid (show Blk v0 w.heap.size 2 #[.int .i64 (-1), .int .i64 0, .int .i64 1, .int .i64 2147483648, .int .i64 (-2147483648), .int .i64 1099511627776, .int .i64 4611686018427387904, .int .i64 (-4611686018427387904), .int .i64 9223372036854775807, .int .i64 (-9223372036854775808)] by rw [hv0]; exact Blk.new _ _ _)
  clear hv0
  refine (l1Below_any p 10 v0 (HL.out.below f0 hp) (by omega) (by omega)).mono ?_
  rintro e w1 ⟨x, rfl, ⟨hx0, hx1⟩, L1, W1⟩
  have K1 := K0.out.wroteA W1 (fun a ha => by obtain rfl := Option.some.inj ha; show p ≠ w.heap.size; omega)
  obtain ⟨k, rfl⟩ : ∃ k : Nat, x = k := ⟨x.toNat, by omega⟩
  obtain ⟨v, hv⟩ := lit_cell [-1, 0, 1, 2147483648, -2147483648, 1099511627776, 4611686018427387904, -4611686018427387904, 9223372036854775807, -9223372036854775808] K1 k (by simp; omega)
  have lt0 := K1.lt
  clear K1 K0
  have hx' : (k : Int) < 10 := by omega
  go_wp2
  go_ret
  exact ⟨v, rfl, trivial, L1, (wrote_below f0 _).trans' W1⟩
set_option maxRecDepth 100000 in
set_option maxHeartbeats 1600000 in
theorem l1Num_any (p : Nat) (m : Int) (w : World) (hL : LC w p 139) (hm : 4 ≤ m) (hm' : m ≤ 1000000000) :
    Calls Try.prog 93 #[.pointer (some ⟨p, 0, none⟩), .int .i64 m] w (RetI w p 139 (fun _ => True)) := by
  have HL := Lib.hid hL
  have hp := hL.lt
  clear hL
  go_enter Try.func93, Try.ntmps93
  go_wp2_with fail
  refine (l1Once_any p 10 w HL.out (by omega) (by omega)).mono ?_
  rintro e w1 ⟨b, rfl, L1, W1⟩
  have hz1 := W1.size
  cases b with
  | true =>
    go_wp2_with fail
    refine (l1Odd_any p w1 L1).mono ?_
    rintro e w2 ⟨y, rfl, _, L2, W2⟩
    have hz2 := W2.size
    go_wp2_with fail
    refine calls_named ?_
    rintro v0 hv0
    have f0 : Below w2.heap.size w2 v0 := by rw [hv0]; (repeat' (first | (with_reducible exact Below.refl _ _) | (with_reducible assumption) | (with_reducible refine Below.alloc ?_ ?_ _) | (with_reducible refine Below.drew ?_) | (with_reducible refine Below.setCell ?_ ?_ _) | (with_reducible refine bstep (by assumption) ?_ ?_) | (with_reducible exact Nat.le_refl _) | omega | (simp [*]; done) | (simp [*]; omega)))
    have K0 := Lib.hid (show Blk v0 w2.heap.size 2 #[.int .i64 (-1), .int .i64 m, .int .i64 (m + 1), .int .i64 y] by rw [hv0]; exact Blk.new _ _ _)
    clear hv0
    refine (l1Below_any p 4 v0 (L2.new f0) (by omega) (by omega)).mono ?_
    rintro e w3 ⟨x, rfl, ⟨hx0, hx1⟩, L3, W3⟩
    have K1 := K0.out.wroteA W3 (fun a ha => by obtain rfl := Option.some.inj ha; have := L2.lt; show p ≠ w2.heap.size; omega)
    obtain ⟨k, rfl⟩ : ∃ k : Nat, x = k := ⟨x.toNat, by omega⟩
    obtain ⟨v, hv⟩ := lit_cell [-1, m, m + 1, y] K1 k (by simp; omega)
    have lt0 := K1.lt
    clear K1 K0
    go_wp2
    go_ret
    exact ⟨v, rfl, trivial, L3, wrote_trans (wrote_trans W1 W2) ((wrote_below f0 _).trans' W3)⟩
  | false =>
    go_wp2_with fail
    refine (l1Once_any p 2 w1 L1 (by omega) (by omega)).mono ?_
    rintro e w2 ⟨b, rfl, L2, W2⟩
    cases b with
    | true =>

      go_wp2_with fail
      refine (l1Min_any m 4 w2).mono ?_
      rintro e w' ⟨rfl, rfl⟩
      rw [if_neg (show ¬ m < 4 by omega)]
      go_wp2_with fail
      refine (l1Below_all p _ w2 L2 (by omega) (by omega)).mono ?_
      rintro e w3 ⟨x, rfl, _, L3, W3⟩
      go_wp2
      go_ret
      exact ⟨_, rfl, trivial, L3, wrote_trans (wrote_trans W1 W2) W3⟩
    | false =>
      go_wp2_with fail
      refine (l1Below_all p _ w2 L2 (by omega) (by omega)).mono ?_
      rintro e w3 ⟨x, rfl, _, L3, W3⟩
      go_wp2
      go_ret
      exact ⟨_, rfl, trivial, L3, wrote_trans (wrote_trans W1 W2) W3⟩
end Go.Proofs.Ytgpllffiahccjaa

/- The reference's draw of FnJobOnce. -/
import Derived.Test.YtgpllffiahccjaaD4
namespace Go.Proofs.Ytgpllffiahccjaa
set_option linter.unusedSimpArgs false
set_option linter.unusedVariables false
attribute [local go_sem] n_lt2 n_lt3 n_lt4 n_le2 n_le3
open Go.RowKit
attribute [local go_sem] Ext.cell Ext.frozen
theorem lit3 (k : Nat) (hk : k < 3) : ∃ u, ([Value.int .i64 0, .int .i64 2000, .int .i64 2001] : List Value)[k]'(by simpa using hk) = .int .i64 u := by
  match k, hk with
  | 0, _ => exact ⟨0, rfl⟩
  | 1, _ => exact ⟨2000, rfl⟩
  | 2, _ => exact ⟨2001, rfl⟩
set_option maxRecDepth 100000 in
set_option maxHeartbeats 8000000 in
theorem DrawJobFired_any (A : Option Addr) (n cap : Nat) (bs : List Int) (w : World) (hS : SlB w A n bs) (hn : n ≤ 4096) :
    Calls Try.prog 45 #[.slice A n cap] w fun e w' => ∃ A' m c zs i t, e = .returned (.tuple #[.slice A' m c, .int .i64 i, .int .i64 t]) ∧ m ≤ 10 ∧ Row w' w.heap.size 68 5 A' m c zs ∧ Below w.heap.size w w' := by
  have HS := Lib.hid hS
  clear hS
  go_enter Try.func45, Try.ntmps45
  go_wp2_with fail
  refine (l1New_any A n cap bs w HS.out hn).mono ?_
  rintro e w1 ⟨rfl, L1, f1⟩
  have hz := f1.size
  have hl := L1.lt
  go_wp2_with fail
  refine (l15DrawAny_any _ w1 L1).mono ?_
  rintro e w2 ⟨A2, m, c, zs, rfl, hm, R2, L2, W2⟩
  have f2 := W2.below f1 f1.size (fun x hx => by obtain rfl := Option.some.inj hx; exact Nat.le_refl _)
  go_wp2_with fail
  refine (l1Num_any _ 12 w2 L2 (by omega) (by omega)).mono ?_
  rintro e w3 ⟨x, rfl, _, L3, W3⟩
  have f3 := W3.below f2 f2.size (fun x hx => by obtain rfl := Option.some.inj hx; exact Nat.le_refl _)
  have R3 := rowp R2 W3 hl
  go_wp2_with fail
  refine (l1Once_any _ 2 w3 L3 (by omega) (by omega)).mono ?_
  rintro e w4 ⟨b4, rfl, L4, W4⟩
  have f4 := W4.below f3 f3.size (fun x hx => by obtain rfl := Option.some.inj hx; exact Nat.le_refl _)
  have R4 := rowp R3 W4 hl
  have z4 := Nat.le_trans W2.size (Nat.le_trans W3.size W4.size)
  clear L2 L3 R2 R3 W2 W3 W4 f2 f3
  cases b4 with
  | false =>
    go_wp2_with fail
    refine (l1Once_any _ 10 w4 L4 (by omega) (by omega)).mono ?_
    rintro e w7 ⟨b7, rfl, L7, W7⟩
    have f7 := W7.below f4 f4.size (fun x hx => by obtain rfl := Option.some.inj hx; exact Nat.le_refl _)
    have R7 := rowp R4 W7 hl
    cases b7 with
    | false =>
      go_wp2_with fail
      refine (l1Num_any _ 35 w7 L7 (by omega) (by omega)).mono ?_
      rintro e w8 ⟨y, rfl, _, L8, W8⟩
      have f8 := W8.below f7 f7.size (fun x hx => by obtain rfl := Option.some.inj hx; exact Nat.le_refl _)
      have R8 := rowp R7 W8 hl
      go_wp2
      refine bodyPost_ret (v := .tuple #[.slice A2 m c, .int .i64 x, .int .i64 y]) (by simp [results, Try.results45, go_sem, *]) rfl ⟨_, m, c, zs, x, y, rfl, hm, R8.mono hz, f8⟩
    | true =>
      have HL7 := Lib.hid L7
      clear L7
      have HN := Lib.hid lit3
      have hb7 : w.heap.size < w7.heap.size := Nat.lt_of_lt_of_le hl (Nat.le_trans z4 W7.size)
      go_wp2_with fail
      go_region_with (first
        | (go_at_call 104; refine (l1Below_any _ 3 _ (by first | exact HL7.out.alloc _ | exact HL7.out) (by omega) (by omega)).mono ?_; rintro e v6 ⟨y, rfl, ⟨hy0, hy1⟩, L6, W6⟩; obtain ⟨k, rfl⟩ : ∃ k : Nat, y = k := ⟨y.toNat, by omega⟩; have hk : k < 3 := (by omega); obtain ⟨u, hu⟩ : ∃ u, v6.cell? ⟨w7.heap.size, k, none⟩ = some (.int .i64 u) := lit_cell [0, 2000, 2001] (Blk.wroteA (Blk.drew (Blk.new_at w7 2 _ w7.heap.size rfl)) W6 (fun a ha => by obtain rfl := Option.some.inj ha; exact Nat.ne_of_lt hb7)) k hk; have hlt6 : w7.heap.size < v6.heap.size := (by have := W6.size; simp at this; omega); have R6 := rowp ((R7.alloc _).drew) W6 hl; have f6 : Below w.heap.size w v6 := W6.below ((f7.alloc f7.size _).drew) ((f7.alloc f7.size _).drew).size (fun x hx => by obtain rfl := Option.some.inj hx; exact Nat.le_refl _))
        | (go_at_call 104; refine (l1Below_any _ 3 _ (by first | exact HL7.out.alloc _ | exact HL7.out) (by omega) (by omega)).mono ?_; rintro e v6 ⟨y, rfl, ⟨hy0, hy1⟩, L6, W6⟩; obtain ⟨k, rfl⟩ : ∃ k : Nat, y = k := ⟨y.toNat, by omega⟩; have hk : k < 3 := (by omega); obtain ⟨u, hu⟩ := HN.out k hk; have R6 := rowp (R7.drew) W6 hl; have f6 : Below w.heap.size w v6 := W6.below f7.drew f7.size (fun x hx => by obtain rfl := Option.some.inj hx; exact Nat.le_refl _)))
      all_goals
        go_wp2
        refine bodyPost_ret (v := .tuple #[.slice A2 m c, .int .i64 x, .int .i64 u]) (by simp [results, Try.results45, go_sem, *]) rfl ⟨_, m, c, zs, x, u, rfl, hm, ?_, ?_⟩
        · first | exact R6.mono hz | exact (R6.alloc _).mono hz
        · first | exact f6 | exact f6.alloc f6.size _
  | true =>
    by_cases hm0 : 0 < m
    · have hm0' : (0 : Int) < (m : Int) := by omega
      obtain ⟨l, hl0, rfl⟩ := JB_of m zs R4.len
      obtain ⟨b, off, rfl, hb, hcells⟩ := sl_jobs R4.sl hm0
      have hids := fun i hi => (hcells i hi).1
      have HI := Lib.hid hids
      clear hcells hids
      have hbl := R4.ge _ rfl
      have hbp : b ≠ w.heap.size := by have : w1.heap.size ≤ b := hbl; omega
      go_wp2_with fail
      refine (l1Below_any _ (m : Int) w4 L4 (by omega) (by omega)).mono ?_
      rintro e w5 ⟨y, rfl, ⟨hy0, hy1⟩, L5, W5⟩
      have f5 := W5.below f4 f4.size (fun x hx => by obtain rfl := Option.some.inj hx; exact Nat.le_refl _)
      have R5 := rowp R4 W5 hl
      obtain ⟨k, rfl⟩ : ∃ k : Nat, y = k := ⟨y.toNat, by omega⟩
      have hid0 : w5.cell? ⟨b, off + k * 5, none⟩ = some (.int .i64 (l.getD k default).i) := (World.cell?_of_block (World.grownBy.block W5 b hb (by simp; exact hbp))).trans (HI.out k (by omega))
      have hb5 : b < w5.heap.size := Nat.lt_of_lt_of_le hb W5.size
      have z5 := Nat.le_trans z4 W5.size
      generalize (l.getD k default).i = x5 at hid0
      go_wp2_with fail
      refine (l1Once_any _ 10 w5 L5 (by omega) (by omega)).mono ?_
      rintro e w7 ⟨b7, rfl, L7, W7⟩
      have f7 := W7.below f5 f5.size (fun x hx => by obtain rfl := Option.some.inj hx; exact Nat.le_refl _)
      have R7 := rowp R5 W7 hl
      cases b7 with
      | false =>
        go_wp2_with fail
        refine (l1Num_any _ 35 w7 L7 (by omega) (by omega)).mono ?_
        rintro e w8 ⟨y, rfl, _, L8, W8⟩
        have f8 := W8.below f7 f7.size (fun x hx => by obtain rfl := Option.some.inj hx; exact Nat.le_refl _)
        have R8 := rowp R7 W8 hl
        go_wp2
        refine bodyPost_ret (v := .tuple #[.slice (some ⟨b, off, none⟩) m c, .int .i64 x5, .int .i64 y]) (by simp [results, Try.results45, go_sem, *]) rfl ⟨_, m, c, (JB l), x5, y, rfl, hm, R8.mono hz, f8⟩
      | true =>
        have HL7 := Lib.hid L7
        clear L7
        have HN := Lib.hid lit3
        have hb7 : w.heap.size < w7.heap.size := Nat.lt_of_lt_of_le hl (Nat.le_trans z5 W7.size)
        go_wp2_with fail
        go_region_with (first
          | (go_at_call 104; refine (l1Below_any _ 3 _ (by first | exact HL7.out.alloc _ | exact HL7.out) (by omega) (by omega)).mono ?_; rintro e v6 ⟨y, rfl, ⟨hy0, hy1⟩, L6, W6⟩; obtain ⟨k, rfl⟩ : ∃ k : Nat, y = k := ⟨y.toNat, by omega⟩; have hk : k < 3 := (by omega); obtain ⟨u, hu⟩ : ∃ u, v6.cell? ⟨w7.heap.size, k, none⟩ = some (.int .i64 u) := lit_cell [0, 2000, 2001] (Blk.wroteA (Blk.drew (Blk.new_at w7 2 _ w7.heap.size rfl)) W6 (fun a ha => by obtain rfl := Option.some.inj ha; exact Nat.ne_of_lt hb7)) k hk; have hlt6 : w7.heap.size < v6.heap.size := (by have := W6.size; simp at this; omega); have R6 := rowp ((R7.alloc _).drew) W6 hl; have f6 : Below w.heap.size w v6 := W6.below ((f7.alloc f7.size _).drew) ((f7.alloc f7.size _).drew).size (fun x hx => by obtain rfl := Option.some.inj hx; exact Nat.le_refl _))
          | (go_at_call 104; refine (l1Below_any _ 3 _ (by first | exact HL7.out.alloc _ | exact HL7.out) (by omega) (by omega)).mono ?_; rintro e v6 ⟨y, rfl, ⟨hy0, hy1⟩, L6, W6⟩; obtain ⟨k, rfl⟩ : ∃ k : Nat, y = k := ⟨y.toNat, by omega⟩; have hk : k < 3 := (by omega); obtain ⟨u, hu⟩ := HN.out k hk; have R6 := rowp (R7.drew) W6 hl; have f6 : Below w.heap.size w v6 := W6.below f7.drew f7.size (fun x hx => by obtain rfl := Option.some.inj hx; exact Nat.le_refl _)))
        all_goals
          go_wp2
          refine bodyPost_ret (v := .tuple #[.slice (some ⟨b, off, none⟩) m c, .int .i64 x5, .int .i64 u]) (by simp [results, Try.results45, go_sem, *]) rfl ⟨_, m, c, (JB l), x5, u, rfl, hm, ?_, ?_⟩
          · first | exact R6.mono hz | exact (R6.alloc _).mono hz
          · first | exact f6 | exact f6.alloc f6.size _
    · have hm0' : ¬ (0 : Int) < (m : Int) := by omega
      go_wp2_with fail
      refine (l1Once_any _ 10 w4 L4 (by omega) (by omega)).mono ?_
      rintro e w7 ⟨b7, rfl, L7, W7⟩
      have f7 := W7.below f4 f4.size (fun x hx => by obtain rfl := Option.some.inj hx; exact Nat.le_refl _)
      have R7 := rowp R4 W7 hl
      cases b7 with
      | false =>
        go_wp2_with fail
        refine (l1Num_any _ 35 w7 L7 (by omega) (by omega)).mono ?_
        rintro e w8 ⟨y, rfl, _, L8, W8⟩
        have f8 := W8.below f7 f7.size (fun x hx => by obtain rfl := Option.some.inj hx; exact Nat.le_refl _)
        have R8 := rowp R7 W8 hl
        go_wp2
        refine bodyPost_ret (v := .tuple #[.slice A2 m c, .int .i64 x, .int .i64 y]) (by simp [results, Try.results45, go_sem, *]) rfl ⟨_, m, c, zs, x, y, rfl, hm, R8.mono hz, f8⟩
      | true =>
        have HL7 := Lib.hid L7
        clear L7
        have HN := Lib.hid lit3
        have hb7 : w.heap.size < w7.heap.size := Nat.lt_of_lt_of_le hl (Nat.le_trans z4 W7.size)
        go_wp2_with fail
        go_region_with (first
          | (go_at_call 104; refine (l1Below_any _ 3 _ (by first | exact HL7.out.alloc _ | exact HL7.out) (by omega) (by omega)).mono ?_; rintro e v6 ⟨y, rfl, ⟨hy0, hy1⟩, L6, W6⟩; obtain ⟨k, rfl⟩ : ∃ k : Nat, y = k := ⟨y.toNat, by omega⟩; have hk : k < 3 := (by omega); obtain ⟨u, hu⟩ : ∃ u, v6.cell? ⟨w7.heap.size, k, none⟩ = some (.int .i64 u) := lit_cell [0, 2000, 2001] (Blk.wroteA (Blk.drew (Blk.new_at w7 2 _ w7.heap.size rfl)) W6 (fun a ha => by obtain rfl := Option.some.inj ha; exact Nat.ne_of_lt hb7)) k hk; have hlt6 : w7.heap.size < v6.heap.size := (by have := W6.size; simp at this; omega); have R6 := rowp ((R7.alloc _).drew) W6 hl; have f6 : Below w.heap.size w v6 := W6.below ((f7.alloc f7.size _).drew) ((f7.alloc f7.size _).drew).size (fun x hx => by obtain rfl := Option.some.inj hx; exact Nat.le_refl _))
          | (go_at_call 104; refine (l1Below_any _ 3 _ (by first | exact HL7.out.alloc _ | exact HL7.out) (by omega) (by omega)).mono ?_; rintro e v6 ⟨y, rfl, ⟨hy0, hy1⟩, L6, W6⟩; obtain ⟨k, rfl⟩ : ∃ k : Nat, y = k := ⟨y.toNat, by omega⟩; have hk : k < 3 := (by omega); obtain ⟨u, hu⟩ := HN.out k hk; have R6 := rowp (R7.drew) W6 hl; have f6 : Below w.heap.size w v6 := W6.below f7.drew f7.size (fun x hx => by obtain rfl := Option.some.inj hx; exact Nat.le_refl _)))
        all_goals
          go_wp2
          refine bodyPost_ret (v := .tuple #[.slice A2 m c, .int .i64 x, .int .i64 u]) (by simp [results, Try.results45, go_sem, *]) rfl ⟨_, m, c, zs, x, u, rfl, hm, ?_, ?_⟩
          · first | exact R6.mono hz | exact (R6.alloc _).mono hz
          · first | exact f6 | exact f6.alloc f6.size _
end Go.Proofs.Ytgpllffiahccjaa

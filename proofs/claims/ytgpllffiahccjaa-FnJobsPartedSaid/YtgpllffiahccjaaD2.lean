/- The reference's draws of pair lists: they come to an end with some list; what it holds is open. -/
import Derived.Test.YtgpllffiahccjaaD1
import Derived.Test.YtgpllffiahccjaaP11
import Derived.Test.YtgpllffiahccjaaP10
namespace Go.Proofs.Ytgpllffiahccjaa
set_option linter.unusedSimpArgs false
set_option linter.unusedVariables false
attribute [local go_sem] n_lt2 n_lt3 n_lt4 n_le2 n_le3
open Go.RowKit
attribute [local go_sem] Ext.cell Ext.frozen
/-- A draw has come to a list of its own, of at most m elements. -/
def RetL (w : World) (p C E s m : Nat) (e : Ending) (w' : World) : Prop := ∃ A n c zs, e = .returned (.slice A n c) ∧ n ≤ m ∧ Row w' w.heap.size E s A n c zs ∧ LC w' p C ∧ Wrote w w' (some ⟨p, 0, none⟩)
theorem rowp {w w' : World} {lo E s : Nat} {A : Option Addr} {n c p : Nat} {zs : List Int} (R : Row w lo E s A n c zs) (hw : Wrote w w' (some ⟨p, 0, none⟩)) (hp : p < lo) : Row w' lo E s A n c zs :=
  R.wrote hw (fun a b ha hb => by obtain rfl := Option.some.inj hb; have := R.ge a ha; show a.block ≠ p; omega)
/-- One cell of a row set. -/
theorem row_put {w : World} {lo E s : Nat} {b n cap : Nat} {zs : List Int} (R : Row w lo E s (some ⟨b, 0, none⟩) n cap zs) (hn : 0 < n) (j : Nat) (v : Int) (hj : j < n * s) : ∃ zs', Row (w.setCell ⟨b, j, none⟩ (.int .i64 v)) lo E s (some ⟨b, 0, none⟩) n cap zs' := by
  obtain ⟨g, cs, hA, hlo, K, h1, h2, h3, h4⟩ := R.blk hn
  obtain ⟨rfl⟩ : b = g := by injection hA with h; injection h
  have hz := R.len
  refine ⟨zs.set j v, Row.of_blk (K.set_ j _) hlo h1 h2 (by rw [Array.size_setIfInBounds]; exact h3) (by rw [List.length_set]; exact hz) (fun i hi => ?_)⟩
  have hle : n * s ≤ cap * s := Nat.mul_le_mul_right _ h1
  rw [Array.getElem?_setIfInBounds]
  by_cases hij : j = i
  · subst hij
    rw [if_pos rfl, if_pos (by omega)]
    simp [List.getD, List.getElem?_set, show j < zs.length by omega]
  · rw [if_neg hij, h4 i hi]
    simp [List.getD, List.getElem?_set, hij]
set_option maxRecDepth 100000 in
set_option maxHeartbeats 2000000 in
theorem l14Draw_any (p : Nat) (w : World) (hL : LC w p 139) : Calls Try.prog 133 #[.pointer (some ⟨p, 0, none⟩)] w (RetL w p 139 101 2 10) := by
  have HL := Lib.hid hL
  have hp := hL.lt
  clear hL
  have R0 : Row (w.alloc (.cells #[] 101)) w.heap.size 101 2 (some ⟨w.heap.size, 0, none⟩) 0 0 [] := row0p (Blk.new w _ _) (Nat.le_refl _)
  go_enter Try.func133, Try.ntmps133
  go_wp2
  go_loopw [3, 4] (fun lv iv wr => ∃ (k : Nat) (A : Option Addr) (n c : Nat) (zs : List Int), k ≤ 10 ∧ n ≤ k ∧ iv = .int .i64 k ∧ lv = .slice A n c ∧ Row wr w.heap.size 101 2 A n c zs ∧ LC wr p 139 ∧ Wrote w wr (some ⟨p, 0, none⟩)) (fun _ iv _ => 10 - (intOf iv).toNat)
  case atStart => exact ⟨0, _, 0, 0, [], by omega, by omega, rfl, rfl, R0, HL.out.new (by (repeat' (first | (with_reducible exact Below.refl _ _) | (with_reducible assumption) | (with_reducible refine Below.alloc ?_ ?_ _) | (with_reducible refine Below.drew ?_) | (with_reducible refine Below.setCell ?_ ?_ _) | (with_reducible refine bstep (by assumption) ?_ ?_) | (with_reducible exact Nat.le_refl _) | omega | (simp [*]; done) | (simp [*]; omega)))), wrote_below (by (repeat' (first | (with_reducible exact Below.refl _ _) | (with_reducible assumption) | (with_reducible refine Below.alloc ?_ ?_ _) | (with_reducible refine Below.drew ?_) | (with_reducible refine Below.setCell ?_ ?_ _) | (with_reducible refine bstep (by assumption) ?_ ?_) | (with_reducible exact Nat.le_refl _) | omega | (simp [*]; done) | (simp [*]; omega)))) _⟩
  case round =>
    obtain ⟨k, A, n, c, zs, hk, hn, rfl, rfl, R, L, W⟩ := hrel
    have hz := W.size
    by_cases hlt : k < 10
    · have hk9 : (k : Int) ≤ 9 := by omega
      go_wp2_with fail
      refine (l1Once_any p 2 wr L (by omega) (by omega)).mono ?_
      rintro e w1 ⟨b, rfl, L1, W1⟩
      have R1 := rowp R W1 hp
      have V1 := wrote_trans W W1
      have hz1 := W1.size
      clear R L
      cases b with
      | false =>
        go_wp2
        exact ⟨⟨k + 1, A, n, c, zs, by omega, by omega, by go_num, rfl, R1, L1, V1⟩, by simp [intOf]; omega⟩
      | true =>
        go_wp2_with fail
        refine (l1Below_any p 4 w1 L1 (by omega) (by omega)).mono ?_
        rintro e w2 ⟨x, rfl, ⟨hx0, hx1⟩, L2, W2⟩
        have R2 := rowp R1 W2 hp
        have V2 := wrote_trans V1 W2
        have hz2 := W2.size
        clear R1 L1
        have L2' := L2.new ((Below.refl w2.heap.size w2).alloc (Nat.le_refl _) (.cells #[.int .i64 k, .int .i64 x] 101))
        have V2' := wrote_grow V2 ((Below.refl w2.heap.size w2).alloc (Nat.le_refl _) (.cells #[.int .i64 k, .int .i64 x] 101)) V2.size
        have HH := Lib.hid (And.intro L2' V2')
        clear L2' V2'
        go_wp2_with (at_builtin; refine wpList_append_row rfl _ _ 41 rfl 101 (.agg #[.int .i64 0, .int .i64 0]) 2 16 Try.underlying41 info_Pair (by first | kernel_rfl | simp [Value.cells]) (by decide) w.heap.size A n c zs rfl (World.ownsRow.alloc R2 _) ⟨w2.heap.size, 0, none⟩ 1 1 [(k : Int), x] rfl rfl (cell_two_new _ _ _ _) (by unfold maxLen; omega) (by omega) (by simp; omega) ?_; intro A5 c5 w5 R5 B5)
        exact ⟨⟨k + 1, A5, _, c5, _, by omega, by omega, by go_num, rfl, R5, HH.out.1.below B5 hp, wrote_grow HH.out.2 B5 (Nat.le_refl _)⟩, by simp [intOf]; omega⟩
    · have hk10 : k = 10 := by omega
      subst hk10
      go_wp2
      go_ret
      exact ⟨A, n, c, zs, rfl, hn, R, L, W⟩
set_option maxRecDepth 100000 in
set_option maxHeartbeats 4000000 in
theorem l14DrawAny_any (p : Nat) (w : World) (hL : LC w p 139) : Calls Try.prog 92 #[.pointer (some ⟨p, 0, none⟩)] w (RetL w p 139 101 2 20) := by
  have HL := Lib.hid hL
  have hp := hL.lt
  clear hL
  go_enter Try.func92, Try.ntmps92
  go_wp2_with fail
  refine (l14Draw_any p w HL.out).mono ?_
  rintro e w1 ⟨A, n, c, zs, rfl, hn, R1, L1, W1⟩
  have hz1 := W1.size
  go_wp2_with fail
  refine (l1Once_any p 6 w1 L1 (by omega) (by omega)).mono ?_
  rintro e w2 ⟨b, rfl, L2, W2⟩
  have R2 := rowp R1 W2 hp
  have V2 := wrote_trans W1 W2
  have hz2 := W2.size
  clear R1 L1 W1 W2
  cases b with
  | false =>
    go_wp2
    go_ret
    exact ⟨A, n, c, zs, rfl, by omega, R2, L2, V2⟩
  | true =>
    go_wp2_with fail
    refine (l1Below_any p 4 w2 L2 (by omega) (by omega)).mono ?_
    rintro e w3 ⟨x, rfl, ⟨hx0, hx1⟩, L3, W3⟩
    have R3 := rowp R2 W3 hp
    have V3 := wrote_trans V2 W3
    have hz3 := W3.size
    clear R2 L2 V2 W3
    rcases (by omega : x = 0 ∨ x = 1 ∨ x = 2 ∨ x = 3) with rfl | rfl | rfl | rfl
    · go_wp2_with fail
      refine (l1Num_any p 9 w3 L3 (by omega) (by omega)).mono ?_
      rintro e w4 ⟨k, rfl, _, L4, W4⟩
      have R4 := rowp R3 W4 hp
      have V4 := wrote_trans V3 W4
      have hz4 := W4.size
      clear R3 L3 V3 W4
      go_wp2_with fail
      refine (l1Num_any p 999 w4 L4 (by omega) (by omega)).mono ?_
      rintro e w6 ⟨v, rfl, _, L6, W6⟩
      have R6 := rowp R4 W6 hp
      have V6 := wrote_trans V4 W6
      have hz6 := W6.size
      clear R4 L4 V4 W6
      have L2' := L6.new ((Below.refl w6.heap.size w6).alloc (Nat.le_refl _) (.cells #[.int .i64 k, .int .i64 v] 101))
      have V2' := wrote_grow V6 ((Below.refl w6.heap.size w6).alloc (Nat.le_refl _) (.cells #[.int .i64 k, .int .i64 v] 101)) V6.size
      have HH := Lib.hid (And.intro L2' V2')
      clear L2' V2'
      go_wp2_with (at_builtin; refine wpList_append_row rfl _ _ 41 rfl 101 (.agg #[.int .i64 0, .int .i64 0]) 2 16 Try.underlying41 info_Pair (by first | kernel_rfl | simp [Value.cells]) (by decide) w.heap.size A n c zs rfl (World.ownsRow.alloc R6 _) ⟨w6.heap.size, 0, none⟩ 1 1 [k, v] rfl rfl (cell_two_new _ _ _ _) (by unfold maxLen; omega) (by omega) (by simp; omega) ?_; intro A5 c5 w5 R5 B5)
      go_ret
      exact ⟨A5, _, c5, _, rfl, by omega, R5, HH.out.1.below B5 hp, wrote_grow HH.out.2 B5 (Nat.le_refl _)⟩
    · have HP := Lib.hid R3
      cases hA : A with
      | none =>
        subst hA
        obtain ⟨rfl, rfl⟩ : n = 0 ∧ c = 0 := by
          rcases R3.2 with ⟨hv, h0⟩ | ⟨g, c', cur, hv, _⟩
          · injection hv with _ h1 h2; exact ⟨h0, h2⟩
          · injection hv with h1; cases h1
        obtain ⟨i0, hi0, hz0, hs0, hy0⟩ := info_parts info_Pair
        have hzs : zs = [] := List.eq_nil_of_length_eq_zero (by have := R3.len; omega)
        subst hzs
        go_wp2_with (at_builtin; refine wpList_append_own_none rfl _ _ 41 rfl w.heap.size 101 i0 2 Try.underlying41 hi0 (.slice none 0 0) 0 [] rfl R3 rfl ?_)
        go_ret
        exact ⟨none, 0, 0, [], rfl, by omega, HP.out, L3, V3⟩
      | some ad =>
        subst hA
        have hnw := Lib.hid (sl_news R3.sl rfl)
        have hln := R3.len
        have HH := Lib.hid (And.intro L3 V3)
        clear L3 V3
        go_wp2_with (at_builtin; refine wpList_append_row rfl _ _ 41 rfl 101 (.agg #[.int .i64 0, .int .i64 0]) 2 16 Try.underlying41 info_Pair (by first | kernel_rfl | simp [Value.cells]) (by decide) w.heap.size (some ad) n c zs rfl R3 ad n c zs rfl hln hnw.out (by unfold maxLen; omega) (by omega) (by omega) ?_; intro A5 c5 w5 R5 B5)
        go_ret
        exact ⟨A5, _, c5, _, rfl, by omega, R5, HH.out.1.below B5 hp, wrote_grow HH.out.2 B5 (Nat.le_refl _)⟩
    · have L2' := L3.new ((Below.refl w3.heap.size w3).alloc (Nat.le_refl _) (.cells #[.int .i64 9, .int .i64 999] 101))
      have V2' := wrote_grow V3 ((Below.refl w3.heap.size w3).alloc (Nat.le_refl _) (.cells #[.int .i64 9, .int .i64 999] 101)) V3.size
      have HH := Lib.hid (And.intro L2' V2')
      clear L2' V2'
      go_wp2_with (at_builtin; refine wpList_append_row rfl _ _ 41 rfl 101 (.agg #[.int .i64 0, .int .i64 0]) 2 16 Try.underlying41 info_Pair (by first | kernel_rfl | simp [Value.cells]) (by decide) w.heap.size A n c zs rfl (World.ownsRow.alloc R3 _) ⟨w3.heap.size, 0, none⟩ 1 1 [9, 999] rfl rfl (cell_two_new _ _ _ _) (by unfold maxLen; omega) (by omega) (by simp; omega) ?_; intro A5 c5 w5 R5 B5)
      go_ret
      exact ⟨A5, _, c5, _, rfl, by omega, R5, HH.out.1.below B5 hp, wrote_grow HH.out.2 B5 (Nat.le_refl _)⟩
    · by_cases hn0 : 0 < n
      · have hn0' : (0 : Int) < (n : Int) := by omega
        obtain ⟨g, cs, rfl, hlo, K, h1, h2, h3, h4⟩ := R3.blk hn0
        have HR := Lib.hid R3
        clear R3 K h4
        go_wp2_with fail
        refine calls_named ?_
        rintro v0 hv0
        have f0 : Below w3.heap.size w3 v0 := by rw [hv0]; (repeat' (first | (with_reducible exact Below.refl _ _) | (with_reducible assumption) | (with_reducible refine Below.alloc ?_ ?_ _) | (with_reducible refine Below.drew ?_) | (with_reducible refine Below.setCell ?_ ?_ _) | (with_reducible refine bstep (by assumption) ?_ ?_) | (with_reducible exact Nat.le_refl _) | omega | (simp [*]; done) | (simp [*]; omega)))
        have K0 := Lib.hid (show Blk v0 w3.heap.size 2 #[.int .i64 (-1), .int .i64 999, .int .i64 1000] by rw [hv0]; exact Blk.new _ _ _)
        clear hv0
        have HR0 := Lib.hid (HR.out.below f0)
        refine (l1Below_any p 3 v0 (L3.new f0) (by omega) (by omega)).mono ?_
        rintro e w4 ⟨x, rfl, ⟨hx0, hx1⟩, L4, W4⟩
        have K1 := K0.out.wroteA W4 (fun a ha => by obtain rfl := Option.some.inj ha; have := L3.lt; show p ≠ w3.heap.size; omega)
        have HR1 := Lib.hid (rowp HR0.out W4 hp)
        obtain ⟨k, rfl⟩ : ∃ k : Nat, x = k := ⟨x.toNat, by omega⟩
        obtain ⟨v, hv⟩ := lit_cell [-1, 999, 1000] K1 k (by simp; omega)
        have lt0 := K1.lt
        obtain ⟨zs', hz'⟩ := row_put HR1.out hn0 1 v (by omega)
        have HZ := Lib.hid hz'
        have V4 := Lib.hid (wrote_trans (wrote_trans V3 (wrote_below f0 _)) W4)
        obtain ⟨_, cs', hA', _, K', _, _, h3', _⟩ := HR1.out.blk hn0
        injection hA' with hA'
        injection hA' with hA'
        subst hA'
        obtain ⟨u1, g1⟩ := K'.has (i := 1) (by omega)
        have fz := K'.frozen 1
        have ltg := K'.lt
        clear K1 K0 hz' HR HR0 K'
        go_wp2
        go_ret
        refine ⟨some ⟨g, 0, none⟩, n, c, zs', rfl, by omega, HZ.out, L4.wrote (A := some ⟨g, 0, none⟩) (wrote_set (p := ⟨g, 1, none⟩) (wrote_refl _ _) rfl _) (fun a ha => by obtain rfl := Option.some.inj ha; show p < g; omega), ?_⟩
        exact wrote_grow V4.out ((Below.refl w.heap.size w4).setCell (show w.heap.size ≤ g from hlo) _) (Nat.le_refl _)
      · have hn0' : ¬ (0 : Int) < (n : Int) := by omega
        go_wp2
        go_ret
        exact ⟨A, n, c, zs, rfl, by omega, R3, L3, V3⟩
set_option maxRecDepth 100000 in
set_option maxHeartbeats 2000000 in
theorem DrawPut_any (A : Option Addr) (n cap : Nat) (bs : List Int) (w : World) (hS : SlB w A n bs) (hn : n ≤ 4096) :
    Calls Try.prog 39 #[.slice A n cap] w fun e w' => ∃ A' m c zs x y, e = .returned (.tuple #[.slice A' m c, .int .i64 x, .int .i64 y]) ∧ m ≤ 20 ∧ Row w' w.heap.size 101 2 A' m c zs ∧ Below w.heap.size w w' := by
  have HS := Lib.hid hS
  clear hS
  go_enter Try.func39, Try.ntmps39
  go_wp2_with fail
  refine (l1New_any A n cap bs w HS.out hn).mono ?_
  rintro e w1 ⟨rfl, L1, f1⟩
  go_wp2_with fail
  refine (l14DrawAny_any _ w1 L1).mono ?_
  rintro e w2 ⟨A2, m, c, zs, rfl, hm, R2, L2, W2⟩
  have f2 := W2.below f1 f1.size (fun x hx => by obtain rfl := Option.some.inj hx; exact Nat.le_refl _)
  have hz := f1.size
  have hl := L1.lt
  go_wp2_with fail
  refine (l1Num_any _ 9 w2 L2 (by omega) (by omega)).mono ?_
  rintro e w3 ⟨x, rfl, _, L3, W3⟩
  have f3 := W3.below f2 f2.size (fun x hx => by obtain rfl := Option.some.inj hx; exact Nat.le_refl _)
  have R3 := rowp R2 W3 hl
  go_wp2_with fail
  refine (l1Num_any _ 999 w3 L3 (by omega) (by omega)).mono ?_
  rintro e w4 ⟨y, rfl, _, L4, W4⟩
  have f4 := W4.below f3 f3.size (fun x hx => by obtain rfl := Option.some.inj hx; exact Nat.le_refl _)
  have R4 := rowp R3 W4 hl
  go_wp2
  refine bodyPost_ret (v := .tuple #[.slice A2 m c, .int .i64 x, .int .i64 y]) (by simp [results, Try.results39, go_sem, *]) rfl ⟨A2, m, c, zs, x, y, rfl, hm, R4.mono hz, f4⟩
set_option maxRecDepth 100000 in
set_option maxHeartbeats 4000000 in
theorem l14DrawTwo_any (p : Nat) (w : World) (hL : LC w p 139) : Calls Try.prog 81 #[.pointer (some ⟨p, 0, none⟩)] w fun e w' => ∃ A n c zs B m d ys, e = .returned (.tuple #[.slice A n c, .slice B m d]) ∧ n ≤ 20 ∧ m ≤ 20 ∧ Row w' w.heap.size 101 2 A n c zs ∧ Row w' w.heap.size 101 2 B m d ys ∧ (∀ a b, A = some a → B = some b → a.block ≠ b.block) ∧ LC w' p 139 ∧ Wrote w w' (some ⟨p, 0, none⟩) := by
  have HL := Lib.hid hL
  have hp := hL.lt
  clear hL
  go_enter Try.func81, Try.ntmps81
  go_wp2_with fail
  refine (l14DrawAny_any p w HL.out).mono ?_
  rintro e w1 ⟨A, n, c, zs, rfl, hn, R1, L1, W1⟩
  have hz1 := W1.size
  obtain ⟨l, hl, rfl⟩ := PR_of n zs R1.len
  go_wp2_with fail
  refine (l14Copy_any A n c l w1 R1.sl hl (by omega) R1.nil_of).mono ?_
  rintro e w2 ⟨B, d, rfl, Q2, f2⟩
  have R2 := R1.below f2
  have L2 := L1.new f2
  have V2 := wrote_grow W1 f2 hz1
  have hz2 := f2.size
  have AP := Lib.hid (apart_of R1.lt Q2.ge)
  clear R1 L1 W1
  go_wp2_with fail
  refine (l1Once_any p 2 w2 L2 (by omega) (by omega)).mono ?_
  rintro e w3 ⟨b, rfl, L3, W3⟩
  have R3 := rowp R2 W3 hp
  have Q3 := rowp (Q2.mono hz1) W3 hp
  have V3 := wrote_trans V2 W3
  have hz3 := W3.size
  clear R2 Q2 L2 V2 W3
  have tail : ∀ (w3 : World) (ys : List Int), w.heap.size ≤ w3.heap.size → Row w3 w.heap.size 101 2 A n c (PR l) → Row w3 w.heap.size 101 2 B n d ys → LC w3 p 139 → Wrote w w3 (some ⟨p, 0, none⟩) → True := fun _ _ _ _ _ _ _ => trivial
  clear tail
  cases b with
  | true =>
    by_cases hn0 : 0 < n
    · have hn0' : (0 : Int) < (n : Int) := by omega
      go_wp2_with fail
      refine (l1Below_any p n w3 L3 (by omega) (by omega)).mono ?_
      rintro e w4 ⟨x, rfl, ⟨hx0, hx1⟩, L4, W4⟩
      have R4 := rowp R3 W4 hp
      have Q4 := rowp Q3 W4 hp
      have V4 := wrote_trans V3 W4
      have hz4 := W4.size
      clear R3 Q3 L3 V3 W4
      go_wp2_with fail
      refine (l1Below_any p 4 w4 L4 (by omega) (by omega)).mono ?_
      rintro e w5 ⟨y, rfl, _, L5, W5⟩
      have R5 := rowp R4 W5 hp
      have Q5 := rowp Q4 W5 hp
      have V5 := wrote_trans V4 W5
      have hz5 := W5.size
      clear R4 Q4 L4 V4 W5
      obtain ⟨k, rfl⟩ : ∃ k : Nat, x = k := ⟨x.toNat, by omega⟩
      obtain ⟨g, cs, rfl, hlo, K, h1, h2, h3, h4⟩ := Q5.blk hn0
      obtain ⟨zs', hz'⟩ := row_put Q5 hn0 (k * 2 + 1) y (by omega)
      have HZ := Lib.hid hz'
      obtain ⟨u1, g1⟩ := K.has (i := k * 2 + 1) (by omega)
      have fz := K.frozen (k * 2 + 1)
      have ltg := K.lt
      have HR5 := Lib.hid (R5.far (p := ⟨g, k * 2 + 1, none⟩) (fun a ha => AP.out a ⟨g, 0, none⟩ ha rfl) (.int .i64 y))
      have HL5 := Lib.hid (L5.wrote (A := some ⟨g, 0, none⟩) (wrote_set (p := ⟨g, k * 2 + 1, none⟩) (wrote_refl w5 _) rfl (.int .i64 y)) (fun a ha => by obtain rfl := Option.some.inj ha; show p < g; omega))
      have HV5 := Lib.hid (wrote_grow V5 ((Below.refl w.heap.size w5).setCell (p := ⟨g, k * 2 + 1, none⟩) (show w.heap.size ≤ g from hlo) (.int .i64 y)) (Nat.le_refl _))
      have hs5 : w.heap.size ≤ (w5.setCell ⟨g, k * 2 + 1, none⟩ (.int .i64 y)).heap.size := by rw [size_set]; omega
      clear hz' K h4 R5 Q5 L5 V5
      go_wp2_with fail
      refine calls_named ?_
      rintro v0 hv0
      rw [← hv0] at HR5 HL5 HV5 hs5 HZ
      clear hv0
      refine (l1Once_any p 2 v0 HL5.out (by omega) (by omega)).mono ?_
      rintro e w6 ⟨b, rfl, L6, W6⟩
      have R6 := Lib.hid (rowp HR5.out W6 hp)
      have Q6 := Lib.hid (rowp HZ.out W6 hp)
      have V6 := Lib.hid (wrote_trans HV5.out W6)
      have hz6 := W6.size
      clear HR5 HZ HL5 HV5 W6
      cases b with
      | false =>
        go_wp2
        refine bodyPost_ret (by simp [results, Try.results81, go_sem, *]) rfl ⟨_, n, c, _, _, n, d, _, rfl, hn, hn, R6.out, Q6.out, AP.out, L6, V6.out⟩
      | true =>
        go_wp2_with fail
        refine (l14DrawAny_any p w6 L6).mono ?_
        rintro e w7 ⟨B7, m7, d7, ys7, rfl, hm7, Q7, L7, W7⟩
        have R7 := Lib.hid (rowp R6.out W7 hp)
        have V7 := Lib.hid (wrote_trans V6.out W7)
        have AP7 := Lib.hid (apart_of R6.out.lt Q7.ge)
        have Q7' := Lib.hid (Q7.mono (show w.heap.size ≤ w6.heap.size by omega))
        clear Q7 W7
        go_wp2
        refine bodyPost_ret (by simp [results, Try.results81, go_sem, *]) rfl ⟨_, n, c, _, B7, m7, d7, ys7, rfl, hn, hm7, R7.out, Q7'.out, AP7.out, L7, V7.out⟩
    · have hn0' : ¬ (0 : Int) < (n : Int) := by omega
      have HR5 := Lib.hid R3
      have HZ := Lib.hid Q3
      have HL5 := Lib.hid L3
      have HV5 := Lib.hid V3
      have hs5 : w.heap.size ≤ w3.heap.size := by omega
      clear R3 Q3 L3 V3
      go_wp2_with fail
      refine calls_named ?_
      rintro v0 hv0
      rw [← hv0] at HR5 HL5 HV5 hs5 HZ
      clear hv0
      refine (l1Once_any p 2 v0 HL5.out (by omega) (by omega)).mono ?_
      rintro e w6 ⟨b, rfl, L6, W6⟩
      have R6 := Lib.hid (rowp HR5.out W6 hp)
      have Q6 := Lib.hid (rowp HZ.out W6 hp)
      have V6 := Lib.hid (wrote_trans HV5.out W6)
      have hz6 := W6.size
      clear HR5 HZ HL5 HV5 W6
      cases b with
      | false =>
        go_wp2
        refine bodyPost_ret (by simp [results, Try.results81, go_sem, *]) rfl ⟨_, n, c, _, _, n, d, _, rfl, hn, hn, R6.out, Q6.out, AP.out, L6, V6.out⟩
      | true =>
        go_wp2_with fail
        refine (l14DrawAny_any p w6 L6).mono ?_
        rintro e w7 ⟨B7, m7, d7, ys7, rfl, hm7, Q7, L7, W7⟩
        have R7 := Lib.hid (rowp R6.out W7 hp)
        have V7 := Lib.hid (wrote_trans V6.out W7)
        have AP7 := Lib.hid (apart_of R6.out.lt Q7.ge)
        have Q7' := Lib.hid (Q7.mono (show w.heap.size ≤ w6.heap.size by omega))
        clear Q7 W7
        go_wp2
        refine bodyPost_ret (by simp [results, Try.results81, go_sem, *]) rfl ⟨_, n, c, _, B7, m7, d7, ys7, rfl, hn, hm7, R7.out, Q7'.out, AP7.out, L7, V7.out⟩
  | false =>
    have HR5 := Lib.hid R3
    have HZ := Lib.hid Q3
    have HL5 := Lib.hid L3
    have HV5 := Lib.hid V3
    have hs5 : w.heap.size ≤ w3.heap.size := by omega
    clear R3 Q3 L3 V3
    go_wp2_with fail
    refine calls_named ?_
    rintro v0 hv0
    rw [← hv0] at HR5 HL5 HV5 hs5 HZ
    clear hv0
    refine (l1Once_any p 2 v0 HL5.out (by omega) (by omega)).mono ?_
    rintro e w6 ⟨b, rfl, L6, W6⟩
    have R6 := Lib.hid (rowp HR5.out W6 hp)
    have Q6 := Lib.hid (rowp HZ.out W6 hp)
    have V6 := Lib.hid (wrote_trans HV5.out W6)
    have hz6 := W6.size
    clear HR5 HZ HL5 HV5 W6
    cases b with
    | false =>
      go_wp2
      refine bodyPost_ret (by simp [results, Try.results81, go_sem, *]) rfl ⟨_, n, c, _, _, n, d, _, rfl, hn, hn, R6.out, Q6.out, AP.out, L6, V6.out⟩
    | true =>
      go_wp2_with fail
      refine (l14DrawAny_any p w6 L6).mono ?_
      rintro e w7 ⟨B7, m7, d7, ys7, rfl, hm7, Q7, L7, W7⟩
      have R7 := Lib.hid (rowp R6.out W7 hp)
      have V7 := Lib.hid (wrote_trans V6.out W7)
      have AP7 := Lib.hid (apart_of R6.out.lt Q7.ge)
      have Q7' := Lib.hid (Q7.mono (show w.heap.size ≤ w6.heap.size by omega))
      clear Q7 W7
      go_wp2
      refine bodyPost_ret (by simp [results, Try.results81, go_sem, *]) rfl ⟨_, n, c, _, B7, m7, d7, ys7, rfl, hn, hm7, R7.out, Q7'.out, AP7.out, L7, V7.out⟩
set_option maxRecDepth 100000 in
set_option maxHeartbeats 2000000 in
theorem DrawUnlikeIn_any (A : Option Addr) (n cap : Nat) (bs : List Int) (w : World) (hS : SlB w A n bs) (hn : n ≤ 4096) :
    Calls Try.prog 26 #[.slice A n cap] w fun e w' => ∃ A' m c zs B k d ys, e = .returned (.tuple #[.slice A' m c, .slice B k d]) ∧ m ≤ 20 ∧ k ≤ 20 ∧ Row w' w.heap.size 101 2 A' m c zs ∧ Row w' w.heap.size 101 2 B k d ys ∧ (∀ a b, A' = some a → B = some b → a.block ≠ b.block) ∧ Below w.heap.size w w' := by
  have HS := Lib.hid hS
  clear hS
  go_enter Try.func26, Try.ntmps26
  go_wp2_with fail
  refine (l1New_any A n cap bs w HS.out hn).mono ?_
  rintro e w1 ⟨rfl, L1, f1⟩
  have hz := f1.size
  go_wp2_with fail
  refine (l14DrawTwo_any _ w1 L1).mono ?_
  rintro e w2 ⟨A2, m, c, zs, B2, k, d, ys, rfl, hm, hk, R2, Q2, hap, L2, W2⟩
  have f2 := W2.below f1 f1.size (fun x hx => by obtain rfl := Option.some.inj hx; exact Nat.le_refl _)
  have HAP := Lib.hid hap
  clear hap
  go_wp2
  refine bodyPost_ret (v := .tuple #[.slice A2 m c, .slice B2 k d]) (by simp [results, Try.results26, go_sem, *]) rfl ⟨A2, m, c, zs, B2, k, d, ys, rfl, hm, hk, R2.mono hz, Q2.mono hz, HAP.out, f2⟩
end Go.Proofs.Ytgpllffiahccjaa

/- The laws' draw of a list of wants: w9Wants. -/
import Derived.Test.YtckbnfgdjdppfaaDiceC
import Derived.Test.YtckbnfgdjdppfaaC1
namespace Go.Proofs.Ytckbnfgdjdppfaa
set_option linter.unusedSimpArgs false
set_option linter.unusedVariables false
attribute [local go_sem] n_lt2 n_lt3 n_lt4 n_le2 n_le3
open Go.RowKit
attribute [local go_sem] Ext.cell Ext.frozen
theorem info_Want9 : (Try.prog.info? 45).map (fun i => (i.zero, i.size, i.bytes)) = some (some (.agg #[.int .i64 0, .int .i64 0, .int .i64 0, .int .i64 0, .int .i64 0, .int .i64 0, .int .i64 0]), 7, 56) := by kernel_rfl
theorem cell_seven_at (w : World) (x0 x1 x2 x3 x4 x5 x6 : Value) (t : TypeId) (g : Nat) (hg : g = w.heap.size) : ∀ j u, [x0, x1, x2, x3, x4, x5, x6][j]? = some u → (w.alloc (.cells #[x0, x1, x2, x3, x4, x5, x6] t)).cell? ((⟨g, 0, none⟩ : Addr).add j) = some u := by
  subst hg
  intro j u hj
  match j, hj with
  | 0, hj => simp at hj; subst hj; simp [Addr.add]
  | 1, hj => simp at hj; subst hj; simp [Addr.add]
  | 2, hj => simp at hj; subst hj; simp [Addr.add]
  | 3, hj => simp at hj; subst hj; simp [Addr.add]
  | 4, hj => simp at hj; subst hj; simp [Addr.add]
  | 5, hj => simp at hj; subst hj; simp [Addr.add]
  | 6, hj => simp at hj; subst hj; simp [Addr.add]
theorem row0d {w : World} {g lo : Nat} {E s : Nat} (h : Blk w g E #[]) (hlo : lo ≤ g) : Row w lo E s (some ⟨g, 0, none⟩) 0 0 [] :=
  Blk.row h hlo (by unfold maxLen; omega) (by simp) (by simp) (by intro j hj; omega)
theorem wantsB_snoc {wl : List Wt} {x : Wt} (h : wantsB wl = true) (hx : wantOkB x = true) : wantsB (wl ++ [x]) = true := by
  unfold wantsB at h ⊢
  simp only [List.all_eq_true, List.mem_range, List.length_append, List.length_singleton] at h ⊢
  intro i hi
  by_cases h' : i < wl.length
  · rw [show (wl ++ [x]).getD i default = wl.getD i default by simp [List.getD, List.getElem?_append_left h']]
    exact h i h'
  · rw [show (wl ++ [x]).getD i default = x by
      have : i = wl.length := by omega
      subst this
      simp [List.getD]]
    exact hx
theorem WT_snoc (wl : List Wt) (x : Wt) : WT wl ++ [x.k, x.o, x.a, x.b, x.c, x.d, x.y] = WT (wl ++ [x]) := by rw [WT_append]; rfl
/-- A draw of wants. -/
def Wants (w : World) (p D m : Nat) (e : Ending) (w' : World) : Prop := ∃ A c wl, e = .returned (.slice A m c) ∧ wl.length = m ∧ wantsB wl = true ∧ Row w' w.heap.size 45 7 A m c (WT wl) ∧ DC w' p D ∧ Wrote w w' (some ⟨p, 0, none⟩)
set_option maxRecDepth 100000 in
set_option maxHeartbeats 8000000 in
theorem w9Wants_any (p m : Nat) (w : World) (hD : DC w p 61) (hm : m ≤ 12) : Calls Try.prog 6 #[.pointer (some ⟨p, 0, none⟩), .int .i64 m] w (Wants w p 61 m) := by
  have HD := Lib.hid hD
  have hp := hD.lt
  clear hD
  have R0 : Row (w.alloc (.cells #[] 45)) w.heap.size 45 7 (some ⟨w.heap.size, 0, none⟩) 0 0 [] := row0d (Blk.new w _ _) (Nat.le_refl _)
  go_enter Try.func6, Try.ntmps6
  go_wp2
  go_loopw [1, 5] (fun mv lv wr => ∃ (j : Nat) (A : Option Addr) (n c : Nat) (wl : List Wt), n + j = m ∧ wl.length = n ∧ wantsB wl = true ∧ mv = .int .i64 j ∧ lv = .slice A n c ∧ Row wr w.heap.size 45 7 A n c (WT wl) ∧ DC wr p 61 ∧ Wrote w wr (some ⟨p, 0, none⟩)) (fun mv _ _ => (intOf mv).toNat)
  case atStart => exact ⟨m, _, 0, 0, [], by omega, rfl, rfl, rfl, rfl, R0, HD.out.new (by (repeat' (first | (with_reducible exact Below.refl _ _) | (with_reducible assumption) | (with_reducible refine Below.alloc ?_ ?_ _) | (with_reducible refine Below.drew ?_) | (with_reducible refine Below.setCell ?_ ?_ _) | (with_reducible refine bstep (by assumption) ?_ ?_) | (with_reducible exact Nat.le_refl _) | omega | (simp [*]; done) | (simp [*]; omega)))), wrote_below (by (repeat' (first | (with_reducible exact Below.refl _ _) | (with_reducible assumption) | (with_reducible refine Below.alloc ?_ ?_ _) | (with_reducible refine Below.drew ?_) | (with_reducible refine Below.setCell ?_ ?_ _) | (with_reducible refine bstep (by assumption) ?_ ?_) | (with_reducible exact Nat.le_refl _) | omega | (simp [*]; done) | (simp [*]; omega)))) _⟩
  case round =>
    obtain ⟨j, A, n, c, wl, hj, hl, hw0, rfl, rfl, R, L, W⟩ := hrel
    have hz := W.size
    by_cases hlt : 0 < j
    · have hj0 : (0 : Int) < (j : Int) := by omega
      have hj12 : (j : Int) ≤ 12 := by omega
      go_wp2_with fail
      refine (below_dc p 4 wr L (by omega)).mono ?_
      rintro e w1 ⟨x, rfl, ⟨x0, x1⟩, L1, W1⟩
      have R1 := rowd R W1 hp
      have V1 := wrote_trans W W1
      have hz1 := W1.size
      clear R L
      rcases (by omega : x = 0 ∨ x = 1 ∨ x = 2 ∨ x = 3) with rfl | rfl | rfl | rfl
      · go_wp2_with fail
        refine (below_dc p 10 w1 L1 (by omega)).mono ?_
        rintro e w2 ⟨a, rfl, ⟨a0, a1⟩, L2, W2⟩
        have R2 := rowd R1 W2 hp
        have V2 := wrote_trans V1 W2
        have hz2 := W2.size
        clear R1 L1
        have L2' := L2.new ((Below.refl w2.heap.size w2).alloc (Nat.le_refl _) (.cells #[.int .i64 4, .int .i64 0, .int .i64 0, .int .i64 0, .int .i64 0, .int .i64 0, .int .i64 a] 45))
        have V2' := wrote_grow V2 ((Below.refl w2.heap.size w2).alloc (Nat.le_refl _) (.cells #[.int .i64 4, .int .i64 0, .int .i64 0, .int .i64 0, .int .i64 0, .int .i64 0, .int .i64 a] 45)) V2.size
        have HH := Lib.hid (And.intro L2' V2')
        clear L2' V2'
        go_wp2_with (at_builtin; refine wpList_append_row rfl _ _ 27 rfl 45 (.agg #[.int .i64 0, .int .i64 0, .int .i64 0, .int .i64 0, .int .i64 0, .int .i64 0, .int .i64 0]) 7 56 Try.underlying27 info_Want9 (by first | kernel_rfl | simp [Value.cells]) (by decide) w.heap.size A n c (WT wl) rfl (World.ownsRow.alloc R2 _) ⟨w2.heap.size, 0, none⟩ 1 1 [4, 0, 0, 0, 0, 0, a] rfl rfl (cell_seven_at _ _ _ _ _ _ _ _ _ _ rfl) (by unfold maxLen; omega) (by omega) (by simp; omega) ?_; intro A5 c5 w5 R5 B5)
        exact ⟨⟨j - 1, A5, n + 1, c5, wl ++ [⟨4, 0, 0, 0, 0, 0, a⟩], by omega, by simp; omega, wantsB_snoc hw0 (by unfold wantOkB wantB; simp [opB, inB]; try omega), by go_num, rfl, by rw [← WT_snoc]; exact R5, HH.out.1.below B5 hp, wrote_grow HH.out.2 B5 (Nat.le_refl _)⟩, by simp [intOf]; omega⟩
      · go_wp2_with fail
        refine (below_dc p 10 w1 L1 (by omega)).mono ?_
        rintro e w2 ⟨a, rfl, ⟨a0, a1⟩, L2, W2⟩
        have R2 := rowd R1 W2 hp
        have V2 := wrote_trans V1 W2
        have hz2 := W2.size
        clear R1 L1
        have L2' := L2.new ((Below.refl w2.heap.size w2).alloc (Nat.le_refl _) (.cells #[.int .i64 2, .int .i64 2, .int .i64 a, .int .i64 0, .int .i64 0, .int .i64 0, .int .i64 0] 45))
        have V2' := wrote_grow V2 ((Below.refl w2.heap.size w2).alloc (Nat.le_refl _) (.cells #[.int .i64 2, .int .i64 2, .int .i64 a, .int .i64 0, .int .i64 0, .int .i64 0, .int .i64 0] 45)) V2.size
        have HH := Lib.hid (And.intro L2' V2')
        clear L2' V2'
        go_wp2_with (at_builtin; refine wpList_append_row rfl _ _ 27 rfl 45 (.agg #[.int .i64 0, .int .i64 0, .int .i64 0, .int .i64 0, .int .i64 0, .int .i64 0, .int .i64 0]) 7 56 Try.underlying27 info_Want9 (by first | kernel_rfl | simp [Value.cells]) (by decide) w.heap.size A n c (WT wl) rfl (World.ownsRow.alloc R2 _) ⟨w2.heap.size, 0, none⟩ 1 1 [2, 2, a, 0, 0, 0, 0] rfl rfl (cell_seven_at _ _ _ _ _ _ _ _ _ _ rfl) (by unfold maxLen; omega) (by omega) (by simp; omega) ?_; intro A5 c5 w5 R5 B5)
        exact ⟨⟨j - 1, A5, n + 1, c5, wl ++ [⟨2, 2, a, 0, 0, 0, 0⟩], by omega, by simp; omega, wantsB_snoc hw0 (by unfold wantOkB wantB; simp [opB, inB]; try omega), by go_num, rfl, by rw [← WT_snoc]; exact R5, HH.out.1.below B5 hp, wrote_grow HH.out.2 B5 (Nat.le_refl _)⟩, by simp [intOf]; omega⟩
      · go_wp2_with fail
        refine (below_dc p 9 w1 L1 (by omega)).mono ?_
        rintro e w2 ⟨a, rfl, ⟨a0, a1⟩, L2, W2⟩
        have R2 := rowd R1 W2 hp
        have V2 := wrote_trans V1 W2
        have hz2 := W2.size
        clear R1 L1
        go_wp2_with fail
        refine (below_dc p 50 w2 L2 (by omega)).mono ?_
        rintro e w3 ⟨b, rfl, ⟨b0, b1⟩, L3, W3⟩
        have R3 := rowd R2 W3 hp
        have V3 := wrote_trans V2 W3
        have hz3 := W3.size
        clear R2 L2
        go_wp2_with fail
        refine (below_dc p 10 w3 L3 (by omega)).mono ?_
        rintro e w4 ⟨g, rfl, ⟨g0, g1⟩, L4, W4⟩
        have R4 := rowd R3 W4 hp
        have V4 := wrote_trans V3 W4
        have hz4 := W4.size
        clear R3 L3
        go_wp2_with fail
        refine (below_dc p 90 w4 L4 (by omega)).mono ?_
        rintro e w5 ⟨d, rfl, ⟨d0, d1⟩, L5, W5⟩
        have R5 := rowd R4 W5 hp
        have V5 := wrote_trans V4 W5
        have hz5 := W5.size
        clear R4 L4
        have L5' := L5.new ((Below.refl w5.heap.size w5).alloc (Nat.le_refl _) (.cells #[.int .i64 3, .int .i64 3, .int .i64 (1 + a), .int .i64 b, .int .i64 g, .int .i64 d, .int .i64 0] 45))
        have V5' := wrote_grow V5 ((Below.refl w5.heap.size w5).alloc (Nat.le_refl _) (.cells #[.int .i64 3, .int .i64 3, .int .i64 (1 + a), .int .i64 b, .int .i64 g, .int .i64 d, .int .i64 0] 45)) V5.size
        have HH := Lib.hid (And.intro L5' V5')
        clear L5' V5'
        go_wp2_with (at_builtin; refine wpList_append_row rfl _ _ 27 rfl 45 (.agg #[.int .i64 0, .int .i64 0, .int .i64 0, .int .i64 0, .int .i64 0, .int .i64 0, .int .i64 0]) 7 56 Try.underlying27 info_Want9 (by first | kernel_rfl | simp [Value.cells]) (by decide) w.heap.size A n c (WT wl) rfl (World.ownsRow.alloc R5 _) ⟨w5.heap.size, 0, none⟩ 1 1 [3, 3, 1 + a, b, g, d, 0] rfl rfl (cell_seven_at _ _ _ _ _ _ _ _ _ _ rfl) (by unfold maxLen; omega) (by omega) (by simp; omega) ?_; intro A5 c5 w5 R5 B5)
        exact ⟨⟨j - 1, A5, n + 1, c5, wl ++ [⟨3, 3, 1 + a, b, g, d, 0⟩], by omega, by simp; omega, wantsB_snoc hw0 (by unfold wantOkB wantB; simp [opB, inB]; try omega), by go_num, rfl, by rw [← WT_snoc]; exact R5, HH.out.1.below B5 hp, wrote_grow HH.out.2 B5 (Nat.le_refl _)⟩, by simp [intOf]; omega⟩
      · go_wp2_with fail
        refine (below_dc p 10 w1 L1 (by omega)).mono ?_
        rintro e w2 ⟨a, rfl, ⟨a0, a1⟩, L2, W2⟩
        have R2 := rowd R1 W2 hp
        have V2 := wrote_trans V1 W2
        have hz2 := W2.size
        clear R1 L1
        go_wp2_with fail
        refine (below_dc p 90 w2 L2 (by omega)).mono ?_
        rintro e w3 ⟨b, rfl, ⟨b0, b1⟩, L3, W3⟩
        have R3 := rowd R2 W3 hp
        have V3 := wrote_trans V2 W3
        have hz3 := W3.size
        clear R2 L2
        have L3' := L3.new ((Below.refl w3.heap.size w3).alloc (Nat.le_refl _) (.cells #[.int .i64 1, .int .i64 1, .int .i64 a, .int .i64 b, .int .i64 0, .int .i64 0, .int .i64 0] 45))
        have V3' := wrote_grow V3 ((Below.refl w3.heap.size w3).alloc (Nat.le_refl _) (.cells #[.int .i64 1, .int .i64 1, .int .i64 a, .int .i64 b, .int .i64 0, .int .i64 0, .int .i64 0] 45)) V3.size
        have HH := Lib.hid (And.intro L3' V3')
        clear L3' V3'
        go_wp2_with (at_builtin; refine wpList_append_row rfl _ _ 27 rfl 45 (.agg #[.int .i64 0, .int .i64 0, .int .i64 0, .int .i64 0, .int .i64 0, .int .i64 0, .int .i64 0]) 7 56 Try.underlying27 info_Want9 (by first | kernel_rfl | simp [Value.cells]) (by decide) w.heap.size A n c (WT wl) rfl (World.ownsRow.alloc R3 _) ⟨w3.heap.size, 0, none⟩ 1 1 [1, 1, a, b, 0, 0, 0] rfl rfl (cell_seven_at _ _ _ _ _ _ _ _ _ _ rfl) (by unfold maxLen; omega) (by omega) (by simp; omega) ?_; intro A5 c5 w5 R5 B5)
        exact ⟨⟨j - 1, A5, n + 1, c5, wl ++ [⟨1, 1, a, b, 0, 0, 0⟩], by omega, by simp; omega, wantsB_snoc hw0 (by unfold wantOkB wantB; simp [opB, inB]; try omega), by go_num, rfl, by rw [← WT_snoc]; exact R5, HH.out.1.below B5 hp, wrote_grow HH.out.2 B5 (Nat.le_refl _)⟩, by simp [intOf]; omega⟩
    · have hj0 : j = 0 := by omega
      subst hj0
      have hnm : n = m := by omega
      subst hnm
      go_wp2
      go_ret
      exact ⟨A, c, wl, rfl, hl, hw0, R, L, W⟩
end Go.Proofs.Ytckbnfgdjdppfaa

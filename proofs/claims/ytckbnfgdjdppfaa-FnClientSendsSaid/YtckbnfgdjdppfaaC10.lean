/- Clients: one more answer on a copy: answered, l13Heard. -/
import Derived.Test.YtckbnfgdjdppfaaC8
import Derived.Test.YtckbnfgdjdppfaaC4
import Derived.Test.YtckbnfgdjdppfaaApp2
import Derived.Test.YtckbnfgdjdppfaaCl1
import Derived.Test.YtckbnfgdjdppfaaWr2
namespace Go.Proofs.Ytckbnfgdjdppfaa
set_option linter.unusedSimpArgs false
set_option linter.unusedVariables false
attribute [local go_sem] n_lt2 n_lt3 n_lt4 n_le2 n_le3
open Go.RowKit
attribute [local go_sem] Ext.cell Ext.frozen
/-- What a call leaves that hands back a client of its own (from block lo on) with one answer more. -/
abbrev RetHeard (w : World) (lo : Nat) (i0 t0 : Int) (n : Nat) (zp : List Int) (m : Nat) (zq : List Int) (en : Ending) (w' : World) : Prop :=
  ∃ A c B d, en = .returned (.agg #[.int .i64 i0, .slice A n c, .slice B m d, .int .i64 t0]) ∧ Row w' lo 45 7 A n c zp ∧ Row w' lo 75 4 B m d zq ∧ (∀ a b, A = some a → B = some b → a.block ≠ b.block) ∧ Below lo w w'
theorem four_sets {w : World} {lo g E : Nat} {s : Nat} {A : Option Addr} {n c : Nat} {zs : List Int} (R : Row w lo E s A n c zs) (h : ∀ a, A = some a → a.block ≠ g) (y0 y1 y2 y3 : Value) : Row ((((w.setCell ⟨g, 0, none⟩ y0).setCell ⟨g, 1, none⟩ y1).setCell ⟨g, 2, none⟩ y2).setCell ⟨g, 3, none⟩ y3) lo E s A n c zs :=
  (((R.far (p := ⟨g, 0, none⟩) h y0).far (p := ⟨g, 1, none⟩) h y1).far (p := ⟨g, 2, none⟩) h y2).far (p := ⟨g, 3, none⟩) h y3
theorem four_below {w0 w : World} {lo g : Nat} (B : Below lo w0 w) (h : lo ≤ g) (y0 y1 y2 y3 : Value) : Below lo w0 ((((w.setCell ⟨g, 0, none⟩ y0).setCell ⟨g, 1, none⟩ y1).setCell ⟨g, 2, none⟩ y2).setCell ⟨g, 3, none⟩ y3) :=
  (((B.setCell (p := ⟨g, 0, none⟩) h y0).setCell (p := ⟨g, 1, none⟩) h y1).setCell (p := ⟨g, 2, none⟩) h y2).setCell (p := ⟨g, 3, none⟩) h y3
theorem btrans {lo : Nat} {w a b : World} (h1 : Below lo w a) (h2 : Below lo a b) : Below lo w b :=
  ⟨h2.os.trans h1.os, h2.tape.trans h1.tape, h2.output.trans h1.output, Nat.le_trans h1.size h2.size, fun k hk => (h2.block k hk).trans (h1.block k hk)⟩
set_option maxRecDepth 100000 in
set_option maxHeartbeats 4000000 in
theorem answered_any (lo : Nat) (A : Option Addr) (n c : Nat) (B : Option Addr) (m d : Nat) (i0 t0 x0 x1 x2 x3 : Int) (zp zq : List Int) (w : World) (hP : Row w lo 45 7 A n c zp) (hQ : Row w lo 75 4 B m d zq) (hap : ∀ a b, A = some a → B = some b → a.block ≠ b.block) (hlo : lo ≤ w.heap.size) (hm : m ≤ 1000) :
    Calls Try.prog 27 #[.agg #[.int .i64 i0, .slice A n c, .slice B m d, .int .i64 t0], .agg #[.int .i64 x0, .int .i64 x1, .int .i64 x2, .int .i64 x3]] w (RetHeard w lo i0 x1 n zp (m + 1) (zq ++ [x0, x1, x2, x3])) := by
  have HP := Lib.hid hP
  have HQ := Lib.hid hQ
  have HAP := Lib.hid hap
  have AL := Lib.hid hP.lt
  have BL := Lib.hid hQ.lt
  clear hP hQ hap
  go_enter Try.func27, Try.ntmps27
  go_wp2_with (at_builtin; refine wpList_append_row2 rfl _ _ 30 rfl 75 (.agg #[.int .i64 0, .int .i64 0, .int .i64 0, .int .i64 0]) 4 32 Try.underlying30 info_Got6 (by simp [Value.cells]) (by decide) lo B m d zq rfl ((((HQ.out.alloc _).alloc _).alloc _).alloc _) ⟨w.heap.size + 1 + 1 + 1, 0, none⟩ 1 1 [x0, x1, x2, x3] rfl rfl (cell_four_at _ _ _ _ _ _ _ (by simp)) (by unfold maxLen; omega) (by omega) (by simp; omega) ?_; intro B5 d5 w5 R5 b5 W5 L5; have K5 : Blk w5 w.heap.size 32 #[.int .i64 i0, .slice A n c, .slice B m d, .int .i64 t0] := Blk.wroteA ((((Blk.new_at _ _ _ _ rfl).alloc _).alloc _).alloc _) W5 (fun a ha => Nat.ne_of_lt (BL.out a ha)); have G5 : Blk w5 (w.heap.size + 1) 75 #[.int .i64 x0, .int .i64 x1, .int .i64 x2, .int .i64 x3] := Blk.wroteA (((Blk.new_at _ _ _ _ (by simp)).alloc _).alloc _) W5 (fun a ha => Nat.ne_of_lt (Nat.lt_succ_of_lt (BL.out a ha))); have R6 : Blk w5 (w.heap.size + 1 + 1) 32 #[.int .i64 0, .slice none 0 0, .slice none 0 0, .int .i64 0] := Blk.wroteA ((Blk.new_at _ _ _ _ (by simp)).alloc _) W5 (fun a ha => Nat.ne_of_lt (Nat.lt_succ_of_lt (Nat.lt_succ_of_lt (BL.out a ha)))); have k0 := K5.cell 0; have k1 := K5.cell 1; have k2 := K5.cell 2; have k3 := K5.cell 3; have y0 := K5.frozen 0; have y1 := K5.frozen 1; have y2 := K5.frozen 2; have y3 := K5.frozen 3; have kl := K5.lt; have g0 := G5.cell 0; have g1 := G5.cell 1; have g2 := G5.cell 2; have g3 := G5.cell 3; have gl := G5.lt; have r0 := R6.cell 0; have r1 := R6.cell 1; have r2 := R6.cell 2; have r3 := R6.cell 3; have z0 := R6.frozen 0; have z1 := R6.frozen 1; have z2 := R6.frozen 2; have z3 := R6.frozen 3; have rl := R6.lt)
  have P5 := ((((HP.out.alloc (.cells #[.int .i64 i0, .slice A n c, .slice B m d, .int .i64 t0] 32)).alloc _).alloc _).alloc _).wrote W5 HAP.out
  have bw : Below lo w w5 := btrans (((((Below.refl lo w).alloc hlo _).alloc (by simp; omega) _).alloc (by simp; omega) _).alloc (by simp; omega) _) b5
  have hA0 : ∀ a, A = some a → a.block ≠ w.heap.size := fun a ha => by have := AL.out a ha; omega
  have hA2 : ∀ a, A = some a → a.block ≠ w.heap.size + 1 + 1 := fun a ha => by have := AL.out a ha; omega
  have hB5 : ∀ a, B5 = some a → a.block < w.heap.size ∨ w.heap.size + 1 + 1 + 1 + 1 = a.block := fun a ha => by
    rcases L5 a ha with ⟨a0, h1, h2⟩ | h2
    · left; rw [← h2]; exact BL.out a0 h1
    · right; simp at h2; omega
  have hB0 : ∀ a, B5 = some a → a.block ≠ w.heap.size := fun a ha => by have := hB5 a ha; omega
  have hB2 : ∀ a, B5 = some a → a.block ≠ w.heap.size + 1 + 1 := fun a ha => by have := hB5 a ha; omega
  have hap5 : ∀ a b, A = some a → B5 = some b → a.block ≠ b.block := fun a b ha hb => by
    rcases L5 b hb with ⟨a0, h1, h2⟩ | h2
    · rw [← h2]; exact HAP.out a a0 ha h1
    · have := AL.out a ha; simp at h2; omega
  clear L5 hB5 W5 b5
  refine bodyPost_ret (v := .agg #[.int .i64 i0, .slice A n c, .slice B5 (m + 1) d5, .int .i64 x1]) (by simp [results, Try.results27, go_sem, *]) rfl ⟨_, _, _, _, rfl, ?_, ?_, hap5, ?_⟩
  · exact four_sets ((P5.far (p := ⟨w.heap.size, 2, none⟩) hA0 _).far (p := ⟨w.heap.size, 3, none⟩) hA0 _) hA2 _ _ _ _
  · exact four_sets ((R5.far (p := ⟨w.heap.size, 2, none⟩) hB0 _).far (p := ⟨w.heap.size, 3, none⟩) hB0 _) hB2 _ _ _ _
  · exact four_below ((bw.setCell (p := ⟨w.heap.size, 2, none⟩) hlo _).setCell (p := ⟨w.heap.size, 3, none⟩) hlo _) (by omega) _ _ _ _
end Go.Proofs.Ytckbnfgdjdppfaa

/- What Ask and Read encode to: the rows of the program and of the reference. -/
import Derived.Test.YtckbnfgdjdppfaaC1
import Derived.Test.YtckbnfgdjdppfaaCp
import Derived.Test.YtckbnfgdjdppfaaBk
import Derived.Test.YtckbnfgdjdppfaaNm
import Derived.Test.YtckbnfgdjdppfaaSInt64
import Derived.Test.YtckbnfgdjdppfaaApp
import Derived.Deep.RegionHeldLaw
import Derived.Deep.RegionLawGrows
namespace Go.Proofs.Ytckbnfgdjdppfaa
set_option linter.unusedSimpArgs false
set_option linter.unusedVariables false
attribute [local go_sem] n_lt2 n_lt3 n_lt4 n_le2 n_le3
open Go.RowKit
attribute [local go_sem] Ext.cell Ext.frozen
def askB (c s k a b x y : Int) : Bool := inB c 2 5 && (inB s 1 2000 && opB k a b x y)
def readB (c s k l : Int) : Bool := inB c 2 5 && (inB s 1 2000 && (inB k 0 9 && inB l 0 2000))
theorem row_lit {w : World} {g lo : Nat} {E : TypeId} (zs : List Int) {cs : Array Value} (h : Blk w g E cs) (hc : cs = (ints zs).toArray) (hlo : lo ≤ g) (hn : zs.length ≤ maxLen) {k : Nat} (hk : zs.length = k) : Row w lo E 1 (some ⟨g, 0, none⟩) k k zs := by
  subst hc hk
  exact h.row hlo hn (by simp [ints]) (by simp) (fun j hj => by simpa using ints_get zs j (by omega))
theorem lit_cells {w : World} {g : Nat} {E : TypeId} (zs : List Int) {cs : Array Value} (h : Blk w g E cs) (hc : cs = (ints zs).toArray) : ∀ j u, (ints zs)[j]? = some u → w.cell? ((⟨g, 0, none⟩ : Addr).add j) = some u := by
  intro j u hu
  have hadd : (⟨g, 0, none⟩ : Addr).add j = ⟨g, j, none⟩ := by unfold Addr.add; split <;> simp_all
  rw [hadd, h.cell, hc]
  simpa using hu
/-- append of the numbers of a slice onto a full block of the call's own. -/
theorem step_append_lit {P : Program} {ops : Array Oper} {o : Oper} {a : Act} {w : World} {K : Act → World → Prop} {Q : Exit → Act → World → Prop} {E : Prop}
    (hg : o.guard = none) (s x : Operand) (t : TypeId) (hop : o.op = Op.call { callee := Callee.builtin Builtin.append, args := #[s, x], argTypes := #[t, t] })
    (e : TypeId) (i : TypeInfo) (z : Value) (bytes : Nat) (h1 : P.underlying t = some (.slice e)) (h2 : P.info? e = some i) (h3 : i.zero = some z) (h4 : i.size = 1) (h5 : i.bytes = bytes) (h6 : z.cells.size = 1)
    (g k : Nat) (hs : a.eval s = .slice (some ⟨g, 0, none⟩) k k) (ks : List Int) (hk : ks.length = k) (hcell : ∀ j u, (ints ks)[j]? = some u → w.cell? ((⟨g, 0, none⟩ : Addr).add j) = some u) (A : Option Addr) (m c : Nat) (zs : List Int) (hx : a.eval x = .slice A m c)
    (hm : 0 < m) (b1 : k ≤ 1000) (b2 : m ≤ 1000) (b3 : bytes ≤ 1000) (lo : Nat) (hlo : lo ≤ w.heap.size) (hS : Sl w 1 A m zs)
    (hK : ∀ g' c' w', Row w' lo e 1 (some ⟨g', 0, none⟩) (k + m) c' (ks ++ zs) → Below w.heap.size w w' → K (a.put o.dst (.slice (some ⟨g', 0, none⟩) (k + m) c')) w') :
    if Region.wanted o (yielded ops a.tmps) = true then Oper.wp P o a w K Q else E := by
  obtain ⟨b, off, rfl, hb, hc⟩ := hS.at_ hm
  have hl := hS.len
  refine step_append_grows hg s x t hop e i z 1 bytes h1 h2 h3 h4 h5 h6 (by decide) (some ⟨g, 0, none⟩) k k (ints ks) hs (by simp) (by rw [ints_length]; omega) (fun b' hb' j u hu => by obtain rfl := Option.some.inj hb'; exact hcell j u hu) ⟨b, off, none⟩ m c (ints zs) hx (by rw [ints_length]; exact hl)
      (slices_of hS rfl) (ints_oneCell' zs) (by omega) (by unfold maxLen; omega) (by have : (k + m) * bytes ≤ 2000 * 1000 := Nat.mul_le_mul (by omega) b3; omega) (fun v' w' hown hgr => ?_)
  rw [← ints_append] at hown
  have hB := grows_below hgr
  rcases hown.2 with ⟨_, h0⟩ | ⟨g', c', cur, rfl, hge, hg', hrest⟩
  · omega
  · have hR : Row w' w.heap.size e 1 (some ⟨g', 0, none⟩) (k + m) c' (ks ++ zs) := hown
    exact hK g' c' w' (hR.mono hlo) hB
abbrev Kp7 (w0 : World) (g0 : Nat) (x0y0 x0y1 x0y2 x0y3 x0y4 x0y5 x0y6 : Value) (w' : World) : Prop := Below w0.heap.size w0 w' ∧ w'.cell? ⟨g0, 0, none⟩ = some (x0y0) ∧ w'.cell? ⟨g0, 1, none⟩ = some (x0y1) ∧ w'.cell? ⟨g0, 2, none⟩ = some (x0y2) ∧ w'.cell? ⟨g0, 3, none⟩ = some (x0y3) ∧ w'.cell? ⟨g0, 4, none⟩ = some (x0y4) ∧ w'.cell? ⟨g0, 5, none⟩ = some (x0y5) ∧ w'.cell? ⟨g0, 6, none⟩ = some (x0y6)
theorem Kp7.of {w0 : World} {g0 : Nat} {x0y0 x0y1 x0y2 x0y3 x0y4 x0y5 x0y6 : Value} {e0 : TypeId} (K0 : Blk w0 g0 e0 #[x0y0, x0y1, x0y2, x0y3, x0y4, x0y5, x0y6]) {w' : World} (h : Below w0.heap.size w0 w') : Kp7 w0 g0 x0y0 x0y1 x0y2 x0y3 x0y4 x0y5 x0y6 w' := ⟨h, (K0.below h).cell 0, (K0.below h).cell 1, (K0.below h).cell 2, (K0.below h).cell 3, (K0.below h).cell 4, (K0.below h).cell 5, (K0.below h).cell 6⟩
theorem Kp7.b {w0 : World} {g0 : Nat} {x0y0 x0y1 x0y2 x0y3 x0y4 x0y5 x0y6 : Value} {w' : World} (h : Kp7 w0 g0 x0y0 x0y1 x0y2 x0y3 x0y4 x0y5 x0y6 w') : Below w0.heap.size w0 w' := h.1
theorem Kp7.le {w0 : World} {g0 : Nat} {x0y0 x0y1 x0y2 x0y3 x0y4 x0y5 x0y6 : Value} {w' : World} (h : Kp7 w0 g0 x0y0 x0y1 x0y2 x0y3 x0y4 x0y5 x0y6 w') : w0.heap.size ≤ w'.heap.size := h.1.size
theorem Kp7.drew {w0 : World} {g0 : Nat} {x0y0 x0y1 x0y2 x0y3 x0y4 x0y5 x0y6 : Value} {e0 : TypeId} (K0 : Blk w0 g0 e0 #[x0y0, x0y1, x0y2, x0y3, x0y4, x0y5, x0y6]) {w' : World} (h : Kp7 w0 g0 x0y0 x0y1 x0y2 x0y3 x0y4 x0y5 x0y6 w') : Kp7 w0 g0 x0y0 x0y1 x0y2 x0y3 x0y4 x0y5 x0y6 w'.drew := Kp7.of K0 h.1.drew
theorem Kp7.alloc {w0 : World} {g0 : Nat} {x0y0 x0y1 x0y2 x0y3 x0y4 x0y5 x0y6 : Value} {e0 : TypeId} (K0 : Blk w0 g0 e0 #[x0y0, x0y1, x0y2, x0y3, x0y4, x0y5, x0y6]) {w' : World} (h : Kp7 w0 g0 x0y0 x0y1 x0y2 x0y3 x0y4 x0y5 x0y6 w') (o : Obj) : Kp7 w0 g0 x0y0 x0y1 x0y2 x0y3 x0y4 x0y5 x0y6 (w'.alloc o) := Kp7.of K0 (h.1.alloc h.1.size o)
theorem Kp7.after {w0 : World} {g0 : Nat} {x0y0 x0y1 x0y2 x0y3 x0y4 x0y5 x0y6 : Value} {e0 : TypeId} (K0 : Blk w0 g0 e0 #[x0y0, x0y1, x0y2, x0y3, x0y4, x0y5, x0y6]) {w' w2 : World} (h : Kp7 w0 g0 x0y0 x0y1 x0y2 x0y3 x0y4 x0y5 x0y6 w') (b : Below w'.heap.size w' w2) : Kp7 w0 g0 x0y0 x0y1 x0y2 x0y3 x0y4 x0y5 x0y6 w2 := Kp7.of K0 (bthen h.1 b)
theorem Kp7.ad {w0 : World} {g0 : Nat} {x0y0 x0y1 x0y2 x0y3 x0y4 x0y5 x0y6 : Value} {e0 : TypeId} (K0 : Blk w0 g0 e0 #[x0y0, x0y1, x0y2, x0y3, x0y4, x0y5, x0y6]) {w' : World} (h : Kp7 w0 g0 x0y0 x0y1 x0y2 x0y3 x0y4 x0y5 x0y6 w'.drew) (o : Obj) : Kp7 w0 g0 x0y0 x0y1 x0y2 x0y3 x0y4 x0y5 x0y6 (w'.alloc o).drew := Kp7.of K0 (Below.drew (Below.alloc (show Below w0.heap.size w0 w' from ⟨h.1.os, h.1.tape, h.1.output, h.1.size, h.1.block⟩) h.1.size o))
set_option maxHeartbeats 2000000 in
theorem askOk_any (c s k a b x y : Int) (w : World) :
    Calls Try.prog 74 #[.agg #[.int .i64 c, .int .i64 s, .int .i64 k, .int .i64 a, .int .i64 b, .int .i64 x, .int .i64 y]] w fun e' w' => e' = .returned (.bool (askB c s k a b x y)) ∧ Below w.heap.size w w' := by
  go_enter Try.func74, Try.ntmps74
  go_wp2_with (first | (go_at_call 39; refine (askerOk_any _ _).mono ?_; rintro e w' ⟨rfl, rfl⟩) | (go_at_call 40; refine (seqOk_any _ _).mono ?_; rintro e w' ⟨rfl, rfl⟩) | (go_at_call 47; refine (opOk_any _ _ _ _ _ _).mono ?_; rintro e w1 ⟨rfl, hb'⟩; (first | (have hb2 := bstep hb' hb hb.size; clear hb' hcb hfb hz1 hz2 hz3 hz4 hb; have hb := hb2; clear hb2) | (have hb := hb'; clear hb')); obtain ⟨hcb, hfb, hz1, hz2, hz3, hz4⟩ := bcell hb; (try simp only [World.size_alloc, World.size_setCell, World.size_drew, Nat.lt_add_one_iff, Nat.add_assoc, Nat.reduceAdd] at hz1 hz2 hz3 hz4)))
  all_goals (go_ret; unfold askB; exact ⟨ret_bool (by first | (simp [*, beqI]; done) | (subst_vars; simp [*, beqI]; done) | (simp [*, beqI]; intros; omega) | (simp_all [beqI]; done)), by (repeat' (first | (with_reducible exact Below.refl _ _) | (with_reducible assumption) | (with_reducible refine Below.alloc ?_ ?_ _) | (with_reducible refine Below.drew ?_) | (with_reducible refine Below.setCell ?_ ?_ _) | (with_reducible refine bstep (by assumption) ?_ ?_) | (with_reducible exact Nat.le_refl _) | omega | (simp [*]; done) | (simp [*]; omega)))⟩)
set_option maxHeartbeats 2000000 in
theorem readOk_any (c s k l : Int) (w : World) :
    Calls Try.prog 69 #[.agg #[.int .i64 c, .int .i64 s, .int .i64 k, .int .i64 l]] w fun e' w' => e' = .returned (.bool (readB c s k l)) ∧ Below w.heap.size w w' := by
  go_enter Try.func69, Try.ntmps69
  go_wp2_with (first | (go_at_call 39; refine (askerOk_any _ _).mono ?_; rintro e w' ⟨rfl, rfl⟩) | (go_at_call 40; refine (seqOk_any _ _).mono ?_; rintro e w' ⟨rfl, rfl⟩) | (go_at_call 48; refine (keyOk_any _ _).mono ?_; rintro e w' ⟨rfl, rfl⟩) | (go_at_call 36; refine (between_any _ _ _ _).mono ?_; rintro e w' ⟨rfl, rfl⟩))
  all_goals (go_ret; unfold readB; exact ⟨ret_bool (by first | (simp [*, beqI]; done) | (subst_vars; simp [*, beqI]; done) | (simp [*, beqI]; intros; omega) | (simp_all [beqI]; done)), by (repeat' (first | (with_reducible exact Below.refl _ _) | (with_reducible assumption) | (with_reducible refine Below.alloc ?_ ?_ _) | (with_reducible refine Below.drew ?_) | (with_reducible refine Below.setCell ?_ ?_ _) | (with_reducible refine bstep (by assumption) ?_ ?_) | (with_reducible exact Nat.le_refl _) | omega | (simp [*]; done) | (simp [*]; omega)))⟩)
set_option maxHeartbeats 2000000 in
theorem askValid_any (c s k a b x y : Int) (w : World) :
    Calls Try.prog 73 #[.agg #[.int .i64 c, .int .i64 s, .int .i64 k, .int .i64 a, .int .i64 b, .int .i64 x, .int .i64 y]] w fun e' w' => e' = .returned (.bool (askB c s k a b x y)) ∧ Below w.heap.size w w' := by
  go_enter Try.func73, Try.ntmps73
  go_wp2_with (first | (go_at_call 74; refine (askOk_any _ _ _ _ _ _ _ _).mono ?_; rintro e w1 ⟨rfl, hb'⟩; (first | (have hb2 := bstep hb' hb hb.size; clear hb' hcb hfb hz1 hz2 hz3 hz4 hb; have hb := hb2; clear hb2) | (have hb := hb'; clear hb')); obtain ⟨hcb, hfb, hz1, hz2, hz3, hz4⟩ := bcell hb; (try simp only [World.size_alloc, World.size_setCell, World.size_drew, Nat.lt_add_one_iff, Nat.add_assoc, Nat.reduceAdd] at hz1 hz2 hz3 hz4)))
  all_goals (go_ret; exact ⟨ret_bool (by first | (simp [*, beqI]; done) | (subst_vars; simp [*, beqI]; done) | (simp [*, beqI]; intros; omega) | (simp_all [beqI]; done)), by (repeat' (first | (with_reducible exact Below.refl _ _) | (with_reducible assumption) | (with_reducible refine Below.alloc ?_ ?_ _) | (with_reducible refine Below.drew ?_) | (with_reducible refine Below.setCell ?_ ?_ _) | (with_reducible refine bstep (by assumption) ?_ ?_) | (with_reducible exact Nat.le_refl _) | omega | (simp [*]; done) | (simp [*]; omega)))⟩)
set_option maxHeartbeats 2000000 in
theorem readValid_any (c s k l : Int) (w : World) :
    Calls Try.prog 68 #[.agg #[.int .i64 c, .int .i64 s, .int .i64 k, .int .i64 l]] w fun e' w' => e' = .returned (.bool (readB c s k l)) ∧ Below w.heap.size w w' := by
  go_enter Try.func68, Try.ntmps68
  go_wp2_with (first | (go_at_call 69; refine (readOk_any _ _ _ _ _).mono ?_; rintro e w1 ⟨rfl, hb'⟩; (first | (have hb2 := bstep hb' hb hb.size; clear hb' hcb hfb hz1 hz2 hz3 hz4 hb; have hb := hb2; clear hb2) | (have hb := hb'; clear hb')); obtain ⟨hcb, hfb, hz1, hz2, hz3, hz4⟩ := bcell hb; (try simp only [World.size_alloc, World.size_setCell, World.size_drew, Nat.lt_add_one_iff, Nat.add_assoc, Nat.reduceAdd] at hz1 hz2 hz3 hz4)))
  all_goals (go_ret; exact ⟨ret_bool (by first | (simp [*, beqI]; done) | (subst_vars; simp [*, beqI]; done) | (simp [*, beqI]; intros; omega) | (simp_all [beqI]; done)), by (repeat' (first | (with_reducible exact Below.refl _ _) | (with_reducible assumption) | (with_reducible refine Below.alloc ?_ ?_ _) | (with_reducible refine Below.drew ?_) | (with_reducible refine Below.setCell ?_ ?_ _) | (with_reducible refine bstep (by assumption) ?_ ?_) | (with_reducible exact Nat.le_refl _) | omega | (simp [*]; done) | (simp [*]; omega)))⟩)
set_option maxHeartbeats 1000000 in
theorem opNumbers_any (k a b x y : Int) (w : World) :
    Calls Try.prog 66 #[.agg #[.int .i64 k, .int .i64 a, .int .i64 b, .int .i64 x, .int .i64 y]] w (RetRow w 2 1 5 [k, a, b, x, y]) := by
  go_enter Try.func66, Try.ntmps66
  go_wp2
  go_ret
  exact RetRow.mk (row_lit [k, a, b, x, y] (Blk.new_at _ _ _ _ (by simp)) rfl (by simp) (by simp [maxLen]) rfl) (by (repeat' (first | (with_reducible exact Below.refl _ _) | (with_reducible assumption) | (with_reducible refine Below.alloc ?_ ?_ _) | (with_reducible refine Below.drew ?_) | (with_reducible refine Below.setCell ?_ ?_ _) | (with_reducible refine bstep (by assumption) ?_ ?_) | (with_reducible exact Nat.le_refl _) | omega | (simp [*]; done) | (simp [*]; omega))))
set_option maxHeartbeats 1000000 in
theorem readFields_any (c s k l : Int) (w : World) :
    Calls Try.prog 67 #[.agg #[.int .i64 c, .int .i64 s, .int .i64 k, .int .i64 l]] w (RetRow w 2 1 4 [c, s, k, l]) := by
  go_enter Try.func67, Try.ntmps67
  go_wp2
  go_ret
  exact RetRow.mk (row_lit [c, s, k, l] (Blk.new_at _ _ _ _ (by simp)) rfl (by simp) (by simp [maxLen]) rfl) (by (repeat' (first | (with_reducible exact Below.refl _ _) | (with_reducible assumption) | (with_reducible refine Below.alloc ?_ ?_ _) | (with_reducible refine Below.drew ?_) | (with_reducible refine Below.setCell ?_ ?_ _) | (with_reducible refine bstep (by assumption) ?_ ?_) | (with_reducible exact Nat.le_refl _) | omega | (simp [*]; done) | (simp [*]; omega))))
set_option maxRecDepth 100000 in
set_option maxHeartbeats 4000000 in
theorem askFields_any (c s k a b x y : Int) (w : World) :
    Calls Try.prog 72 #[.agg #[.int .i64 c, .int .i64 s, .int .i64 k, .int .i64 a, .int .i64 b, .int .i64 x, .int .i64 y]] w (RetRow w 2 1 7 [c, s, k, a, b, x, y]) := by
  obtain ⟨i0, hi0, hz0, hs0, hy0⟩ := info_parts info_Int64
  go_enter Try.func72, Try.ntmps72
  go_wp2
  obtain ⟨v0, hv0⟩ : ∃ v : World, v = w.alloc (.cells #[.int .i64 c, .int .i64 s, .int .i64 k, .int .i64 a, .int .i64 b, .int .i64 x, .int .i64 y] 54) := ⟨_, rfl⟩
  have K0 : Blk v0 w.heap.size 54 #[.int .i64 c, .int .i64 s, .int .i64 k, .int .i64 a, .int .i64 b, .int .i64 x, .int .i64 y] := by rw [hv0]; exact Blk.new _ _ _
  have f0 : Below w.heap.size w v0 := by rw [hv0]; (repeat' (first | (with_reducible exact Below.refl _ _) | (with_reducible assumption) | (with_reducible refine Below.alloc ?_ ?_ _) | (with_reducible refine Below.drew ?_) | (with_reducible refine Below.setCell ?_ ?_ _) | (with_reducible refine bstep (by assumption) ?_ ?_) | (with_reducible exact Nat.le_refl _) | omega | (simp [*]; done) | (simp [*]; omega)))
  rw [← hv0]
  clear hv0
  have HK := Lib.hid (show Blk v0 w.heap.size 54 #[.int .i64 c, .int .i64 s, .int .i64 k, .int .i64 a, .int .i64 b, .int .i64 x, .int .i64 y] from K0)
  have HF := Lib.hid f0
  have z0 := HK.out.lt
  clear K0 f0
  have lt_a := HK.out.lt
  have r_a0 : v0.cell? ⟨w.heap.size, 0, none⟩ = some (.int .i64 c) := HK.out.cell 0
  have r_a1 : v0.cell? ⟨w.heap.size, 1, none⟩ = some (.int .i64 s) := HK.out.cell 1
  have r_a2 : v0.cell? ⟨w.heap.size, 2, none⟩ = some (.int .i64 k) := HK.out.cell 2
  have r_a3 : v0.cell? ⟨w.heap.size, 3, none⟩ = some (.int .i64 a) := HK.out.cell 3
  have r_a4 : v0.cell? ⟨w.heap.size, 4, none⟩ = some (.int .i64 b) := HK.out.cell 4
  have r_a5 : v0.cell? ⟨w.heap.size, 5, none⟩ = some (.int .i64 x) := HK.out.cell 5
  have r_a6 : v0.cell? ⟨w.heap.size, 6, none⟩ = some (.int .i64 y) := HK.out.cell 6
  go_region_held_law (fun w' => Below v0.heap.size v0 w' ∧ w'.cell? ⟨w.heap.size, 0, none⟩ = some (.int .i64 c) ∧ w'.cell? ⟨w.heap.size, 1, none⟩ = some (.int .i64 s) ∧ w'.cell? ⟨w.heap.size, 2, none⟩ = some (.int .i64 k) ∧ w'.cell? ⟨w.heap.size, 3, none⟩ = some (.int .i64 a) ∧ w'.cell? ⟨w.heap.size, 4, none⟩ = some (.int .i64 b) ∧ w'.cell? ⟨w.heap.size, 5, none⟩ = some (.int .i64 x) ∧ w'.cell? ⟨w.heap.size, 6, none⟩ = some (.int .i64 y)) (first | with_reducible exact Kp7.of HK.out (Below.drew (Below.refl _ _)) | with_reducible exact Kp7.drew HK.out (by assumption) | with_reducible exact Kp7.ad HK.out (by assumption) _ | with_reducible exact Kp7.alloc HK.out (by assumption) _ | with_reducible exact Kp7.after HK.out (by assumption) (by assumption))
    (first
      | (go_at_call 66; refine (opNumbers_any k a b x y _).mono ?_; rintro e v1 ⟨A1, c1, rfl, R1, b1⟩)
      | (refine step_append_lit rfl _ _ 36 rfl 2 i0 _ 8 Try.underlying36 hi0 hz0 hs0 hy0 rfl _ 2 rfl [c, s] rfl (by first | exact lit_cells _ (Blk.below (Blk.drew (Blk.new_at _ _ _ _ rfl)) b1) rfl | exact lit_cells _ (Blk.new_at _ _ _ _ rfl) rfl) A1 5 c1 [k, a, b, x, y] rfl (by decide) (by decide) (by decide) (by decide) v0.heap.size (@Kp7.le v0 (w.heap.size) (.int .i64 c) (.int .i64 s) (.int .i64 k) (.int .i64 a) (.int .i64 b) (.int .i64 x) (.int .i64 y) _ (by assumption)) (by first | exact R1.sl | exact R1.sl.alloc _) ?_; intro g5 c5 w5 R5 B5))
  all_goals
    have hF := (@Kp7.b v0 (w.heap.size) (.int .i64 c) (.int .i64 s) (.int .i64 k) (.int .i64 a) (.int .i64 b) (.int .i64 x) (.int .i64 y) _ (by assumption))
    rename_i hHx
    clear hHx
    go_wp2
    refine bodyPost_ret (v := .slice (some ⟨g5, 0, none⟩) 7 c5) (by simp [results, Try.results72, go_sem]) rfl ?_
    exact RetRow.mk (R5.mono (Nat.le_of_lt z0)) (bthen HF.out hF)
end Go.Proofs.Ytckbnfgdjdppfaa

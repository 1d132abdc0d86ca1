/- Part 4 of what the claim rests on: F1, InsP, P11, J7, J8, T1, P12, InsJ, J10, J11. No condition of its own. -/
import Derived.Test.YtokklkmibjpjnaaGreatBd3
import Derived.Deep.DeepCutAuto
import Derived.Deep.CutBlock
import Derived.Deep.RegionHeldLaw
import Derived.Deep.RegionLaw
import Derived.Lib.Overlaps
import Derived.Lib.AppendZeros
import Derived.Laws.Externs
import Derived.Laws.NewBlocks
import Derived.Outline
namespace Go.Proofs.YtokklkmibjpjnaaGreat
set_option linter.unusedSimpArgs false
set_option linter.unusedVariables false
attribute [local go_sem] n_lt2 n_lt3 n_lt4 n_le2 n_le3
open Go.RowKit
attribute [local go_sem] Ext.cell Ext.frozen
/-- A drawn entry: its client is a node's number. -/
def RetNext (w : World) (p : Nat) (e : Ending) (w' : World) : Prop := ∃ ex et ec es ek ea eb eg eh, e = .returned (.agg #[.int .i64 ex, .int .i64 et, .int .i64 ec, .int .i64 es, .int .i64 ek, .int .i64 ea, .int .i64 eb, .int .i64 eg, .int .i64 eh]) ∧ (0 ≤ ec ∧ ec ≤ 5) ∧ DC w' p 93 ∧ Wrote w w' (some ⟨p, 0, none⟩)
/-- What lives through the draw: the state's box, the result's, the dice. -/
structure NX (w0 w : World) (p gs gr : Nat) (cs : Array Value) : Prop where
  s : Blk w gs 37 cs
  r : Blk w gr 43 #[.int .i64 0, .int .i64 0, .int .i64 0, .int .i64 0, .int .i64 0, .int .i64 0, .int .i64 0, .int .i64 0, .int .i64 0]
  d : DC w p 93
  f : Wrote w0 w (some ⟨p, 0, none⟩)
  ps : p < gs
  pr : p < gr
theorem wrote_u {w w' : World} {A : Option Addr} (h : Wrote w.drew w' A) : Wrote w w' A := ⟨h.os, h.tape, h.output, h.size, h.block⟩
section
variable {w0 w w' : World} {p gs gr : Nat} {cs : Array Value}
theorem NX.dice (h : NX w0 w p gs gr cs) (hw : Wrote w w' (some ⟨p, 0, none⟩)) (hd : DC w' p 93) : NX w0 w' p gs gr cs :=
  ⟨h.s.wrote2 hw (Nat.ne_of_gt h.ps), h.r.wrote2 hw (Nat.ne_of_gt h.pr), hd, wrote_trans h.f hw, h.ps, h.pr⟩
theorem NX.below (h : NX w0 w p gs gr cs) (hb : Below w.heap.size w w') : NX w0 w' p gs gr cs :=
  ⟨h.s.below hb, h.r.below hb, h.d.new hb, wrote_then h.f hb, h.ps, h.pr⟩
theorem NX.alloc (h : NX w0 w p gs gr cs) (o : Obj) : NX w0 (w.alloc o) p gs gr cs := h.below ((Below.refl _ _).alloc (Nat.le_refl _) o)
theorem NX.drew (h : NX w0 w p gs gr cs) : NX w0 w.drew p gs gr cs := h.below (Below.drew (Below.refl _ _))
theorem NX.far (h : NX w0 w p gs gr cs) {g : Nat} (h0 : w0.heap.size ≤ g) (h1 : gs ≠ g) (h2 : gr ≠ g) (h3 : p < g) (j : Nat) (u : Value) : NX w0 (w.setCell ⟨g, j, none⟩ u) p gs gr cs :=
  ⟨h.s.far h1 u, h.r.far h2 u, h.d.far h3 u, wrote_grow h.f (Below.setCell (Below.refl _ w) (p := ⟨g, j, none⟩) h0 u) (Nat.le_refl _), h.ps, h.pr⟩
end
theorem kb_al {v v2 : World} {p E : Nat} {cs : Array Value} (W : Wrote (v.drew.alloc (.cells cs E)) v2 (some ⟨p, 0, none⟩)) (h : v.heap.size ≠ p) : Blk v2 v.heap.size E cs := Blk.wrote2 (Blk.new_at v.drew E cs v.heap.size rfl) W h
theorem wrote_da {w w' : World} {o : Obj} {p : Nat} (h : Wrote (w.drew.alloc o) w' (some ⟨p, 0, none⟩)) : Wrote w w' (some ⟨p, 0, none⟩) := wrote_trans (wrote_below (((Below.refl _ _).drew).alloc (Nat.le_refl _) o) _) h
theorem wrote_ad {w w' : World} {o : Obj} {p : Nat} (h : Wrote (w.alloc o).drew w' (some ⟨p, 0, none⟩)) : Wrote w w' (some ⟨p, 0, none⟩) := wrote_trans (wrote_below (((Below.refl _ _).alloc (Nat.le_refl _) o).drew) _) h
theorem kb_ad {v v2 : World} {p E : Nat} {cs : Array Value} (W : Wrote (v.alloc (.cells cs E)).drew v2 (some ⟨p, 0, none⟩)) (h : v.heap.size ≠ p) : Blk v2 v.heap.size E cs := Blk.wrote2 (Blk.new_at v E cs v.heap.size rfl) (wrote_u W) h
theorem t6_drew_size (v : World) : v.heap.size = v.drew.heap.size := rfl
theorem nx_drew {W v : World} {s k : Nat} (h : ∀ b o, b < s → b ≠ k → v.cell? ⟨b, o, none⟩ = W.cell? ⟨b, o, none⟩) : ∀ b o, b < s → b ≠ k → v.drew.cell? ⟨b, o, none⟩ = W.cell? ⟨b, o, none⟩ := h
theorem nx_alloc {W v : World} {s k : Nat} (h : ∀ b o, b < s → b ≠ k → v.cell? ⟨b, o, none⟩ = W.cell? ⟨b, o, none⟩) (hz : s ≤ v.heap.size) (x : Obj) : ∀ b o, b < s → b ≠ k → (v.alloc x).cell? ⟨b, o, none⟩ = W.cell? ⟨b, o, none⟩ := fun b o hb hk => (Below.cell (p := ⟨b, o, none⟩) ((Below.refl v.heap.size v).alloc (Nat.le_refl _) x) (Nat.lt_of_lt_of_le hb hz)).trans (h b o hb hk)
theorem nx_set {W v : World} {s k g : Nat} (h : ∀ b o, b < s → b ≠ k → v.cell? ⟨b, o, none⟩ = W.cell? ⟨b, o, none⟩) (hz : s ≤ g) (j : Nat) (y : Value) : ∀ b o, b < s → b ≠ k → (v.setCell ⟨g, j, none⟩ y).cell? ⟨b, o, none⟩ = W.cell? ⟨b, o, none⟩ := fun b o hb hk => (World.cell?_setCell_far _ _ _ _ (by show g ≠ b; omega)).trans (h b o hb hk)
theorem nx_set5 {W v : World} {s k g : Nat} (h : ∀ b o, b < s → b ≠ k → v.cell? ⟨b, o, none⟩ = W.cell? ⟨b, o, none⟩) (hz : s ≤ g) (y0 y1 y2 y3 y4 : Value) : ∀ b o, b < s → b ≠ k → (((((v.setCell ⟨g, 0, none⟩ y0).setCell ⟨g, 1, none⟩ y1).setCell ⟨g, 2, none⟩ y2).setCell ⟨g, 3, none⟩ y3).setCell ⟨g, 4, none⟩ y4).cell? ⟨b, o, none⟩ = W.cell? ⟨b, o, none⟩ := nx_set (nx_set (nx_set (nx_set (nx_set h hz 0 y0) hz 1 y1) hz 2 y2) hz 3 y3) hz 4 y4
theorem NX.far5 {w0 w : World} {p gs gr : Nat} {cs : Array Value} (h : NX w0 w p gs gr cs) {g : Nat} (h0 : w0.heap.size ≤ g) (h1 : gs ≠ g) (h2 : gr ≠ g) (h3 : p < g) (y0 y1 y2 y3 y4 : Value) : NX w0 (((((w.setCell ⟨g, 0, none⟩ y0).setCell ⟨g, 1, none⟩ y1).setCell ⟨g, 2, none⟩ y2).setCell ⟨g, 3, none⟩ y3).setCell ⟨g, 4, none⟩ y4) p gs gr cs :=
  ((((h.far h0 h1 h2 h3 0 y0).far h0 h1 h2 h3 1 y1).far h0 h1 h2 h3 2 y2).far h0 h1 h2 h3 3 y3).far h0 h1 h2 h3 4 y4
theorem f1_alloc {w v : World} {p s gr : Nat} {cs : Array Value} {a0 a1 a2 a3 a4 : Int} (H : NX w v p s gr cs) : ∃ (g : Nat) (o0 o1 o2 o3 o4 : Int), Value.pointer (some ⟨v.heap.size, 0, none⟩) = .pointer (some ⟨g, 0, none⟩) ∧ gr < g ∧ Hid (Blk (v.alloc (.cells #[.int .i64 a0, .int .i64 a1, .int .i64 a2, .int .i64 a3, .int .i64 a4] 41)) g 41 #[.int .i64 o0, .int .i64 o1, .int .i64 o2, .int .i64 o3, .int .i64 o4]) ∧ Hid (NX w (v.alloc (.cells #[.int .i64 a0, .int .i64 a1, .int .i64 a2, .int .i64 a3, .int .i64 a4] 41)) p s gr cs) :=
  ⟨v.heap.size, a0, a1, a2, a3, a4, rfl, H.r.lt, Lib.hid (Blk.new_at v _ _ _ rfl), Lib.hid (H.alloc _)⟩
theorem f1_set {w v : World} {p s gr g0 : Nat} {cs : Array Value} {z0 z1 z2 z3 z4 : Value} {a0 a1 a2 a3 a4 : Int} (H : NX w v p s gr cs) (KB : Blk v g0 41 #[z0, z1, z2, z3, z4]) (h0 : w.heap.size ≤ g0) (h1 : s ≠ g0) (h2 : gr < g0) : ∃ (g : Nat) (o0 o1 o2 o3 o4 : Int), Value.pointer (some ⟨g0, 0, none⟩) = .pointer (some ⟨g, 0, none⟩) ∧ gr < g ∧ Hid (Blk (World.setCell (World.setCell (World.setCell (World.setCell (World.setCell v ⟨g0, 0, none⟩ (.int .i64 a0)) ⟨g0, 1, none⟩ (.int .i64 a1)) ⟨g0, 2, none⟩ (.int .i64 a2)) ⟨g0, 3, none⟩ (.int .i64 a3)) ⟨g0, 4, none⟩ (.int .i64 a4)) g 41 #[.int .i64 o0, .int .i64 o1, .int .i64 o2, .int .i64 o3, .int .i64 o4]) ∧ Hid (NX w (World.setCell (World.setCell (World.setCell (World.setCell (World.setCell v ⟨g0, 0, none⟩ (.int .i64 a0)) ⟨g0, 1, none⟩ (.int .i64 a1)) ⟨g0, 2, none⟩ (.int .i64 a2)) ⟨g0, 3, none⟩ (.int .i64 a3)) ⟨g0, 4, none⟩ (.int .i64 a4)) p s gr cs) :=
  ⟨g0, a0, a1, a2, a3, a4, rfl, h2, Lib.hid (((((KB.set_ 0 _).set_ 1 _).set_ 2 _).set_ 3 _).set_ 4 _), Lib.hid (NX.far5 H h0 h1 (Nat.ne_of_lt h2) (Nat.lt_trans H.pr h2) _ _ _ _ _)⟩
theorem f2_set {w v : World} {p s gr g0 : Nat} {cs : Array Value} {z0 z1 z2 z3 z4 : Value} {a0 a1 a2 a3 a4 d : Int} (H : NX w v p s gr cs) (KB : Blk v g0 41 #[z0, z1, z2, z3, z4]) (h0 : w.heap.size ≤ g0) (h1 : ¬ s = g0) (h2 : gr < g0) (hd : 0 ≤ d ∧ d ≤ 5) : ∃ (id o0 o1 o2 o3 o4 : Int), Value.int .i64 d = .int .i64 id ∧ (0 ≤ id ∧ id ≤ 5) ∧ Hid (Blk (World.setCell (World.setCell (World.setCell (World.setCell (World.setCell v ⟨g0, 0, none⟩ (.int .i64 a0)) ⟨g0, 1, none⟩ (.int .i64 a1)) ⟨g0, 2, none⟩ (.int .i64 a2)) ⟨g0, 3, none⟩ (.int .i64 a3)) ⟨g0, 4, none⟩ (.int .i64 a4)) g0 41 #[.int .i64 o0, .int .i64 o1, .int .i64 o2, .int .i64 o3, .int .i64 o4]) ∧ Hid (NX w (World.setCell (World.setCell (World.setCell (World.setCell (World.setCell v ⟨g0, 0, none⟩ (.int .i64 a0)) ⟨g0, 1, none⟩ (.int .i64 a1)) ⟨g0, 2, none⟩ (.int .i64 a2)) ⟨g0, 3, none⟩ (.int .i64 a3)) ⟨g0, 4, none⟩ (.int .i64 a4)) p s gr cs) :=
  ⟨d, a0, a1, a2, a3, a4, rfl, hd, Lib.hid (((((KB.set_ 0 _).set_ 1 _).set_ 2 _).set_ 3 _).set_ 4 _), Lib.hid (NX.far5 H h0 h1 (Nat.ne_of_lt h2) (Nat.lt_trans H.pr h2) _ _ _ _ _)⟩
theorem f2_one {w v : World} {p s gr g0 : Nat} {cs : Array Value} {z1 : Value} {a0 a1 a2 a3 a4 d : Int} (H : NX w v p s gr cs) (KB : Blk v g0 41 #[.int .i64 a0, z1, .int .i64 a2, .int .i64 a3, .int .i64 a4]) (h0 : w.heap.size ≤ g0) (h1 : ¬ s = g0) (h2 : gr < g0) (hd : 0 ≤ d ∧ d ≤ 5) : ∃ (id o0 o1 o2 o3 o4 : Int), Value.int .i64 d = .int .i64 id ∧ (0 ≤ id ∧ id ≤ 5) ∧ Hid (Blk (World.setCell v ⟨g0, 1, none⟩ (.int .i64 a1)) g0 41 #[.int .i64 o0, .int .i64 o1, .int .i64 o2, .int .i64 o3, .int .i64 o4]) ∧ Hid (NX w (World.setCell v ⟨g0, 1, none⟩ (.int .i64 a1)) p s gr cs) :=
  ⟨d, a0, a1, a2, a3, a4, rfl, hd, Lib.hid (KB.set_ 1 _), Lib.hid (NX.far H h0 h1 (Nat.ne_of_lt h2) (Nat.lt_trans H.pr h2) 1 _)⟩
theorem f2_id {w v : World} {p s gr g0 : Nat} {cs : Array Value} {a0 a1 a2 a3 a4 d : Int} (H : NX w v p s gr cs) (KB : Blk v g0 41 #[.int .i64 a0, .int .i64 a1, .int .i64 a2, .int .i64 a3, .int .i64 a4]) (hd : 0 ≤ d ∧ d ≤ 5) : ∃ (id o0 o1 o2 o3 o4 : Int), Value.int .i64 d = .int .i64 id ∧ (0 ≤ id ∧ id ≤ 5) ∧ Hid (Blk v g0 41 #[.int .i64 o0, .int .i64 o1, .int .i64 o2, .int .i64 o3, .int .i64 o4]) ∧ Hid (NX w v p s gr cs) :=
  ⟨d, a0, a1, a2, a3, a4, rfl, hd, Lib.hid KB, Lib.hid H⟩
theorem sl_wrote {w w' : World} {s : Nat} {A : Option Addr} {n p : Nat} {zs : List Int} (h : Sl w s A n zs) (hW : Wrote w w' (some ⟨p, 0, none⟩)) (hne : ∀ a, A = some a → a.block ≠ p) : Sl w' s A n zs := ⟨h.1, fun hn => by
  obtain ⟨b, off, hA, hb, hc⟩ := h.2 hn
  have hk : b ≠ p := hne _ hA
  exact ⟨b, off, hA, Nat.lt_of_lt_of_le hb hW.size, fun j hj => (World.cell?_of_block (a := ⟨b, off + j, none⟩) (World.grownBy.block hW b hb (by simpa using hk))).trans (hc j hj)⟩⟩
theorem far5c (v : World) {g b : Nat} (o : Nat) (y0 y1 y2 y3 y4 : Value) (h : ¬ b = g) : World.cell? (World.setCell (World.setCell (World.setCell (World.setCell (World.setCell v ⟨g, 0, none⟩ y0) ⟨g, 1, none⟩ y1) ⟨g, 2, none⟩ y2) ⟨g, 3, none⟩ y3) ⟨g, 4, none⟩ y4) ⟨b, o, none⟩ = v.cell? ⟨b, o, none⟩ := by
  have hn : g ≠ b := fun e => h e.symm
  rw [World.cell?_setCell_far _ _ _ _ hn, World.cell?_setCell_far _ _ _ _ hn, World.cell?_setCell_far _ _ _ _ hn, World.cell?_setCell_far _ _ _ _ hn, World.cell?_setCell_far _ _ _ _ hn]
theorem far9c (v : World) {g b : Nat} (o : Nat) (y0 y1 y2 y3 y4 y5 y6 y7 y8 : Value) (h : ¬ b = g) : World.cell? (World.setCell (World.setCell (World.setCell (World.setCell (World.setCell (World.setCell (World.setCell (World.setCell (World.setCell v ⟨g, 0, none⟩ y0) ⟨g, 1, none⟩ y1) ⟨g, 2, none⟩ y2) ⟨g, 3, none⟩ y3) ⟨g, 4, none⟩ y4) ⟨g, 5, none⟩ y5) ⟨g, 6, none⟩ y6) ⟨g, 7, none⟩ y7) ⟨g, 8, none⟩ y8) ⟨b, o, none⟩ = v.cell? ⟨b, o, none⟩ := by
  have hn : g ≠ b := fun e => h e.symm
  rw [World.cell?_setCell_far _ _ _ _ hn, World.cell?_setCell_far _ _ _ _ hn, World.cell?_setCell_far _ _ _ _ hn, World.cell?_setCell_far _ _ _ _ hn, World.cell?_setCell_far _ _ _ _ hn, World.cell?_setCell_far _ _ _ _ hn, World.cell?_setCell_far _ _ _ _ hn, World.cell?_setCell_far _ _ _ _ hn, World.cell?_setCell_far _ _ _ _ hn]
theorem s17_far {v : World} {g b : Nat} {x y0 y1 y2 y3 y4 : Value} (hc : v.cell? ⟨b, 1, none⟩ = some x) (h : ¬ b = g) : World.cell? (World.setCell (World.setCell (World.setCell (World.setCell (World.setCell v ⟨g, 0, none⟩ y0) ⟨g, 1, none⟩ y1) ⟨g, 2, none⟩ y2) ⟨g, 3, none⟩ y3) ⟨g, 4, none⟩ y4) ⟨b, 1, none⟩ = some x := (far5c v 1 _ _ _ _ _ h).trans hc
theorem s22_far {v : World} {g b k : Nat} {x0 x1 z0 z1 z2 z3 z4 y0 y1 y2 y3 y4 y5 y6 y7 y8 : Value} (hc : v.cell? ⟨b, 0, none⟩ = some x0 ∧ v.cell? ⟨b, 1, none⟩ = some x1 ∧ v.cell? ⟨k, 0, none⟩ = some z0 ∧ v.cell? ⟨k, 1, none⟩ = some z1 ∧ v.cell? ⟨k, 2, none⟩ = some z2 ∧ v.cell? ⟨k, 3, none⟩ = some z3 ∧ v.cell? ⟨k, 4, none⟩ = some z4) (h : ¬ b = g) (h2 : ¬ k = g) : World.cell? (World.setCell (World.setCell (World.setCell (World.setCell (World.setCell (World.setCell (World.setCell (World.setCell (World.setCell v ⟨g, 0, none⟩ y0) ⟨g, 1, none⟩ y1) ⟨g, 2, none⟩ y2) ⟨g, 3, none⟩ y3) ⟨g, 4, none⟩ y4) ⟨g, 5, none⟩ y5) ⟨g, 6, none⟩ y6) ⟨g, 7, none⟩ y7) ⟨g, 8, none⟩ y8) ⟨b, 0, none⟩ = some x0 ∧ World.cell? (World.setCell (World.setCell (World.setCell (World.setCell (World.setCell (World.setCell (World.setCell (World.setCell (World.setCell v ⟨g, 0, none⟩ y0) ⟨g, 1, none⟩ y1) ⟨g, 2, none⟩ y2) ⟨g, 3, none⟩ y3) ⟨g, 4, none⟩ y4) ⟨g, 5, none⟩ y5) ⟨g, 6, none⟩ y6) ⟨g, 7, none⟩ y7) ⟨g, 8, none⟩ y8) ⟨b, 1, none⟩ = some x1 ∧ World.cell? (World.setCell (World.setCell (World.setCell (World.setCell (World.setCell (World.setCell (World.setCell (World.setCell (World.setCell v ⟨g, 0, none⟩ y0) ⟨g, 1, none⟩ y1) ⟨g, 2, none⟩ y2) ⟨g, 3, none⟩ y3) ⟨g, 4, none⟩ y4) ⟨g, 5, none⟩ y5) ⟨g, 6, none⟩ y6) ⟨g, 7, none⟩ y7) ⟨g, 8, none⟩ y8) ⟨k, 0, none⟩ = some z0 ∧ World.cell? (World.setCell (World.setCell (World.setCell (World.setCell (World.setCell (World.setCell (World.setCell (World.setCell (World.setCell v ⟨g, 0, none⟩ y0) ⟨g, 1, none⟩ y1) ⟨g, 2, none⟩ y2) ⟨g, 3, none⟩ y3) ⟨g, 4, none⟩ y4) ⟨g, 5, none⟩ y5) ⟨g, 6, none⟩ y6) ⟨g, 7, none⟩ y7) ⟨g, 8, none⟩ y8) ⟨k, 1, none⟩ = some z1 ∧ World.cell? (World.setCell (World.setCell (World.setCell (World.setCell (World.setCell (World.setCell (World.setCell (World.setCell (World.setCell v ⟨g, 0, none⟩ y0) ⟨g, 1, none⟩ y1) ⟨g, 2, none⟩ y2) ⟨g, 3, none⟩ y3) ⟨g, 4, none⟩ y4) ⟨g, 5, none⟩ y5) ⟨g, 6, none⟩ y6) ⟨g, 7, none⟩ y7) ⟨g, 8, none⟩ y8) ⟨k, 2, none⟩ = some z2 ∧ World.cell? (World.setCell (World.setCell (World.setCell (World.setCell (World.setCell (World.setCell (World.setCell (World.setCell (World.setCell v ⟨g, 0, none⟩ y0) ⟨g, 1, none⟩ y1) ⟨g, 2, none⟩ y2) ⟨g, 3, none⟩ y3) ⟨g, 4, none⟩ y4) ⟨g, 5, none⟩ y5) ⟨g, 6, none⟩ y6) ⟨g, 7, none⟩ y7) ⟨g, 8, none⟩ y8) ⟨k, 3, none⟩ = some z3 ∧ World.cell? (World.setCell (World.setCell (World.setCell (World.setCell (World.setCell (World.setCell (World.setCell (World.setCell (World.setCell v ⟨g, 0, none⟩ y0) ⟨g, 1, none⟩ y1) ⟨g, 2, none⟩ y2) ⟨g, 3, none⟩ y3) ⟨g, 4, none⟩ y4) ⟨g, 5, none⟩ y5) ⟨g, 6, none⟩ y6) ⟨g, 7, none⟩ y7) ⟨g, 8, none⟩ y8) ⟨k, 4, none⟩ = some z4 := ⟨(far9c v 0 _ _ _ _ _ _ _ _ _ h).trans hc.1, (far9c v 1 _ _ _ _ _ _ _ _ _ h).trans hc.2.1, (far9c v 0 _ _ _ _ _ _ _ _ _ h2).trans hc.2.2.1, (far9c v 1 _ _ _ _ _ _ _ _ _ h2).trans hc.2.2.2.1, (far9c v 2 _ _ _ _ _ _ _ _ _ h2).trans hc.2.2.2.2.1, (far9c v 3 _ _ _ _ _ _ _ _ _ h2).trans hc.2.2.2.2.2.1, (far9c v 4 _ _ _ _ _ _ _ _ _ h2).trans hc.2.2.2.2.2.2⟩
theorem blk_set9 {v : World} {gr E : Nat} {z0 z1 z2 z3 z4 z5 z6 z7 z8 : Value} (K : Blk v gr E #[z0, z1, z2, z3, z4, z5, z6, z7, z8]) (y0 y1 y2 y3 y4 y5 y6 y7 y8 : Value) : Blk (World.setCell (World.setCell (World.setCell (World.setCell (World.setCell (World.setCell (World.setCell (World.setCell (World.setCell v ⟨gr, 0, none⟩ y0) ⟨gr, 1, none⟩ y1) ⟨gr, 2, none⟩ y2) ⟨gr, 3, none⟩ y3) ⟨gr, 4, none⟩ y4) ⟨gr, 5, none⟩ y5) ⟨gr, 6, none⟩ y6) ⟨gr, 7, none⟩ y7) ⟨gr, 8, none⟩ y8) gr E #[y0, y1, y2, y3, y4, y5, y6, y7, y8] := by
  have k0 : Blk (World.setCell v ⟨gr, 0, none⟩ y0) gr E #[y0, z1, z2, z3, z4, z5, z6, z7, z8] := K.set_ 0 y0
  have k1 : Blk (World.setCell (World.setCell v ⟨gr, 0, none⟩ y0) ⟨gr, 1, none⟩ y1) gr E #[y0, y1, z2, z3, z4, z5, z6, z7, z8] := k0.set_ 1 y1
  have k2 : Blk (World.setCell (World.setCell (World.setCell v ⟨gr, 0, none⟩ y0) ⟨gr, 1, none⟩ y1) ⟨gr, 2, none⟩ y2) gr E #[y0, y1, y2, z3, z4, z5, z6, z7, z8] := k1.set_ 2 y2
  have k3 : Blk (World.setCell (World.setCell (World.setCell (World.setCell v ⟨gr, 0, none⟩ y0) ⟨gr, 1, none⟩ y1) ⟨gr, 2, none⟩ y2) ⟨gr, 3, none⟩ y3) gr E #[y0, y1, y2, y3, z4, z5, z6, z7, z8] := k2.set_ 3 y3
  have k4 : Blk (World.setCell (World.setCell (World.setCell (World.setCell (World.setCell v ⟨gr, 0, none⟩ y0) ⟨gr, 1, none⟩ y1) ⟨gr, 2, none⟩ y2) ⟨gr, 3, none⟩ y3) ⟨gr, 4, none⟩ y4) gr E #[y0, y1, y2, y3, y4, z5, z6, z7, z8] := k3.set_ 4 y4
  have k5 : Blk (World.setCell (World.setCell (World.setCell (World.setCell (World.setCell (World.setCell v ⟨gr, 0, none⟩ y0) ⟨gr, 1, none⟩ y1) ⟨gr, 2, none⟩ y2) ⟨gr, 3, none⟩ y3) ⟨gr, 4, none⟩ y4) ⟨gr, 5, none⟩ y5) gr E #[y0, y1, y2, y3, y4, y5, z6, z7, z8] := k4.set_ 5 y5
  have k6 : Blk (World.setCell (World.setCell (World.setCell (World.setCell (World.setCell (World.setCell (World.setCell v ⟨gr, 0, none⟩ y0) ⟨gr, 1, none⟩ y1) ⟨gr, 2, none⟩ y2) ⟨gr, 3, none⟩ y3) ⟨gr, 4, none⟩ y4) ⟨gr, 5, none⟩ y5) ⟨gr, 6, none⟩ y6) gr E #[y0, y1, y2, y3, y4, y5, y6, z7, z8] := k5.set_ 6 y6
  have k7 : Blk (World.setCell (World.setCell (World.setCell (World.setCell (World.setCell (World.setCell (World.setCell (World.setCell v ⟨gr, 0, none⟩ y0) ⟨gr, 1, none⟩ y1) ⟨gr, 2, none⟩ y2) ⟨gr, 3, none⟩ y3) ⟨gr, 4, none⟩ y4) ⟨gr, 5, none⟩ y5) ⟨gr, 6, none⟩ y6) ⟨gr, 7, none⟩ y7) gr E #[y0, y1, y2, y3, y4, y5, y6, y7, z8] := k6.set_ 7 y7
  have k8 : Blk (World.setCell (World.setCell (World.setCell (World.setCell (World.setCell (World.setCell (World.setCell (World.setCell (World.setCell v ⟨gr, 0, none⟩ y0) ⟨gr, 1, none⟩ y1) ⟨gr, 2, none⟩ y2) ⟨gr, 3, none⟩ y3) ⟨gr, 4, none⟩ y4) ⟨gr, 5, none⟩ y5) ⟨gr, 6, none⟩ y6) ⟨gr, 7, none⟩ y7) ⟨gr, 8, none⟩ y8) gr E #[y0, y1, y2, y3, y4, y5, y6, y7, y8] := k7.set_ 8 y8
  exact k8
theorem dc_set9 {v : World} {p gr D : Nat} (H : DC v p D) (hp : p < gr) (y0 y1 y2 y3 y4 y5 y6 y7 y8 : Value) : DC (World.setCell (World.setCell (World.setCell (World.setCell (World.setCell (World.setCell (World.setCell (World.setCell (World.setCell v ⟨gr, 0, none⟩ y0) ⟨gr, 1, none⟩ y1) ⟨gr, 2, none⟩ y2) ⟨gr, 3, none⟩ y3) ⟨gr, 4, none⟩ y4) ⟨gr, 5, none⟩ y5) ⟨gr, 6, none⟩ y6) ⟨gr, 7, none⟩ y7) ⟨gr, 8, none⟩ y8) p D := by
  have k0 : DC (World.setCell v ⟨gr, 0, none⟩ y0) p D := H.far (q := ⟨gr, 0, none⟩) hp y0
  have k1 : DC (World.setCell (World.setCell v ⟨gr, 0, none⟩ y0) ⟨gr, 1, none⟩ y1) p D := k0.far (q := ⟨gr, 1, none⟩) hp y1
  have k2 : DC (World.setCell (World.setCell (World.setCell v ⟨gr, 0, none⟩ y0) ⟨gr, 1, none⟩ y1) ⟨gr, 2, none⟩ y2) p D := k1.far (q := ⟨gr, 2, none⟩) hp y2
  have k3 : DC (World.setCell (World.setCell (World.setCell (World.setCell v ⟨gr, 0, none⟩ y0) ⟨gr, 1, none⟩ y1) ⟨gr, 2, none⟩ y2) ⟨gr, 3, none⟩ y3) p D := k2.far (q := ⟨gr, 3, none⟩) hp y3
  have k4 : DC (World.setCell (World.setCell (World.setCell (World.setCell (World.setCell v ⟨gr, 0, none⟩ y0) ⟨gr, 1, none⟩ y1) ⟨gr, 2, none⟩ y2) ⟨gr, 3, none⟩ y3) ⟨gr, 4, none⟩ y4) p D := k3.far (q := ⟨gr, 4, none⟩) hp y4
  have k5 : DC (World.setCell (World.setCell (World.setCell (World.setCell (World.setCell (World.setCell v ⟨gr, 0, none⟩ y0) ⟨gr, 1, none⟩ y1) ⟨gr, 2, none⟩ y2) ⟨gr, 3, none⟩ y3) ⟨gr, 4, none⟩ y4) ⟨gr, 5, none⟩ y5) p D := k4.far (q := ⟨gr, 5, none⟩) hp y5
  have k6 : DC (World.setCell (World.setCell (World.setCell (World.setCell (World.setCell (World.setCell (World.setCell v ⟨gr, 0, none⟩ y0) ⟨gr, 1, none⟩ y1) ⟨gr, 2, none⟩ y2) ⟨gr, 3, none⟩ y3) ⟨gr, 4, none⟩ y4) ⟨gr, 5, none⟩ y5) ⟨gr, 6, none⟩ y6) p D := k5.far (q := ⟨gr, 6, none⟩) hp y6
  have k7 : DC (World.setCell (World.setCell (World.setCell (World.setCell (World.setCell (World.setCell (World.setCell (World.setCell v ⟨gr, 0, none⟩ y0) ⟨gr, 1, none⟩ y1) ⟨gr, 2, none⟩ y2) ⟨gr, 3, none⟩ y3) ⟨gr, 4, none⟩ y4) ⟨gr, 5, none⟩ y5) ⟨gr, 6, none⟩ y6) ⟨gr, 7, none⟩ y7) p D := k6.far (q := ⟨gr, 7, none⟩) hp y7
  have k8 : DC (World.setCell (World.setCell (World.setCell (World.setCell (World.setCell (World.setCell (World.setCell (World.setCell (World.setCell v ⟨gr, 0, none⟩ y0) ⟨gr, 1, none⟩ y1) ⟨gr, 2, none⟩ y2) ⟨gr, 3, none⟩ y3) ⟨gr, 4, none⟩ y4) ⟨gr, 5, none⟩ y5) ⟨gr, 6, none⟩ y6) ⟨gr, 7, none⟩ y7) ⟨gr, 8, none⟩ y8) p D := k7.far (q := ⟨gr, 8, none⟩) hp y8
  exact k8
theorem below_set9 {v : World} {lo gr : Nat} (h0 : lo ≤ gr) (y0 y1 y2 y3 y4 y5 y6 y7 y8 : Value) : Below lo v (World.setCell (World.setCell (World.setCell (World.setCell (World.setCell (World.setCell (World.setCell (World.setCell (World.setCell v ⟨gr, 0, none⟩ y0) ⟨gr, 1, none⟩ y1) ⟨gr, 2, none⟩ y2) ⟨gr, 3, none⟩ y3) ⟨gr, 4, none⟩ y4) ⟨gr, 5, none⟩ y5) ⟨gr, 6, none⟩ y6) ⟨gr, 7, none⟩ y7) ⟨gr, 8, none⟩ y8) := by
  have k0 : Below lo v (World.setCell v ⟨gr, 0, none⟩ y0) := (Below.refl lo v).setCell (p := ⟨gr, 0, none⟩) h0 y0
  have k1 : Below lo v (World.setCell (World.setCell v ⟨gr, 0, none⟩ y0) ⟨gr, 1, none⟩ y1) := k0.setCell (p := ⟨gr, 1, none⟩) h0 y1
  have k2 : Below lo v (World.setCell (World.setCell (World.setCell v ⟨gr, 0, none⟩ y0) ⟨gr, 1, none⟩ y1) ⟨gr, 2, none⟩ y2) := k1.setCell (p := ⟨gr, 2, none⟩) h0 y2
  have k3 : Below lo v (World.setCell (World.setCell (World.setCell (World.setCell v ⟨gr, 0, none⟩ y0) ⟨gr, 1, none⟩ y1) ⟨gr, 2, none⟩ y2) ⟨gr, 3, none⟩ y3) := k2.setCell (p := ⟨gr, 3, none⟩) h0 y3
  have k4 : Below lo v (World.setCell (World.setCell (World.setCell (World.setCell (World.setCell v ⟨gr, 0, none⟩ y0) ⟨gr, 1, none⟩ y1) ⟨gr, 2, none⟩ y2) ⟨gr, 3, none⟩ y3) ⟨gr, 4, none⟩ y4) := k3.setCell (p := ⟨gr, 4, none⟩) h0 y4
  have k5 : Below lo v (World.setCell (World.setCell (World.setCell (World.setCell (World.setCell (World.setCell v ⟨gr, 0, none⟩ y0) ⟨gr, 1, none⟩ y1) ⟨gr, 2, none⟩ y2) ⟨gr, 3, none⟩ y3) ⟨gr, 4, none⟩ y4) ⟨gr, 5, none⟩ y5) := k4.setCell (p := ⟨gr, 5, none⟩) h0 y5
  have k6 : Below lo v (World.setCell (World.setCell (World.setCell (World.setCell (World.setCell (World.setCell (World.setCell v ⟨gr, 0, none⟩ y0) ⟨gr, 1, none⟩ y1) ⟨gr, 2, none⟩ y2) ⟨gr, 3, none⟩ y3) ⟨gr, 4, none⟩ y4) ⟨gr, 5, none⟩ y5) ⟨gr, 6, none⟩ y6) := k5.setCell (p := ⟨gr, 6, none⟩) h0 y6
  have k7 : Below lo v (World.setCell (World.setCell (World.setCell (World.setCell (World.setCell (World.setCell (World.setCell (World.setCell v ⟨gr, 0, none⟩ y0) ⟨gr, 1, none⟩ y1) ⟨gr, 2, none⟩ y2) ⟨gr, 3, none⟩ y3) ⟨gr, 4, none⟩ y4) ⟨gr, 5, none⟩ y5) ⟨gr, 6, none⟩ y6) ⟨gr, 7, none⟩ y7) := k6.setCell (p := ⟨gr, 7, none⟩) h0 y7
  have k8 : Below lo v (World.setCell (World.setCell (World.setCell (World.setCell (World.setCell (World.setCell (World.setCell (World.setCell (World.setCell v ⟨gr, 0, none⟩ y0) ⟨gr, 1, none⟩ y1) ⟨gr, 2, none⟩ y2) ⟨gr, 3, none⟩ y3) ⟨gr, 4, none⟩ y4) ⟨gr, 5, none⟩ y5) ⟨gr, 6, none⟩ y6) ⟨gr, 7, none⟩ y7) ⟨gr, 8, none⟩ y8) := k7.setCell (p := ⟨gr, 8, none⟩) h0 y8
  exact k8
theorem nx_end {Q : Exit → Act → World → Prop} {e : Exit} {a : Act} {w v : World} {p s gr : Nat} {cs : Array Value} {y0 y1 y2 y3 y4 y5 y6 y7 y8 : Value} (H : NX w v p s gr cs) (h0 : w.heap.size ≤ gr) (h : ∀ v1, Blk v1 gr 43 #[y0, y1, y2, y3, y4, y5, y6, y7, y8] → DC v1 p 93 → Wrote w v1 (some ⟨p, 0, none⟩) → Q e a v1) : Q e a (World.setCell (World.setCell (World.setCell (World.setCell (World.setCell (World.setCell (World.setCell (World.setCell (World.setCell v ⟨gr, 0, none⟩ y0) ⟨gr, 1, none⟩ y1) ⟨gr, 2, none⟩ y2) ⟨gr, 3, none⟩ y3) ⟨gr, 4, none⟩ y4) ⟨gr, 5, none⟩ y5) ⟨gr, 6, none⟩ y6) ⟨gr, 7, none⟩ y7) ⟨gr, 8, none⟩ y8) := h _ (blk_set9 H.r _ _ _ _ _ _ _ _ _) (dc_set9 H.d H.pr _ _ _ _ _ _ _ _ _) (wrote_grow H.f (below_set9 h0 _ _ _ _ _ _ _ _ _) (Nat.le_refl _))
theorem nx_ret {w v : World} {p : Nat} {ex et ec es ek ea eb eg eh : Int} (hid : 0 ≤ ec ∧ ec ≤ 5) (D : DC v p 93) (W : Wrote w v (some ⟨p, 0, none⟩)) : RetNext w p (.returned (.agg #[.int .i64 ex, .int .i64 et, .int .i64 ec, .int .i64 es, .int .i64 ek, .int .i64 ea, .int .i64 eb, .int .i64 eg, .int .i64 eh])) v := ⟨ex, et, ec, es, ek, ea, eb, eg, eh, rfl, hid, D, W⟩
set_option maxRecDepth 100000 in
set_option maxHeartbeats 8000000 in
theorem w6Next_any (p : Nat) (A : Option Addr) (n c : Nat) (B : Option Addr) (m d : Nat) (i0 t0 l0 l1 l2 : Int) (pl : List Pr) (ql : List Jb) (w : World) (hD : DC w p 93) (hQ : Sl w 5 B m (JB ql)) (hr : ql.length = m) (hs : stateB i0 t0 l0 l1 l2 pl ql = true) (hne : ∀ a, B = some a → a.block ≠ p) (hm : m ≤ maxLen) :
    Calls Tryz.prog 56 #[.pointer (some ⟨p, 0, none⟩), .agg #[.int .i64 i0, .int .i64 t0, .slice A n c, .slice B m d, .int .i64 l0, .int .i64 l1, .int .i64 l2]] w (RetNext w p) := by
  have HQ := Lib.hid hQ
  have HSt := Lib.hid (stateB_all hs)
  have hi0 := HSt.out.1
  have ht0 := HSt.out.2.1
  have HR := Lib.hid hr
  clear hQ hs hr
  go_enter Tryz.func56, Tryz.ntmps56
  go_wp2_with fail
  refine calls_named ?_
  rintro v0 hv0
  have f0 : Below w.heap.size w v0 := by rw [hv0]; (repeat' (first | (with_reducible exact Below.refl _ _) | (with_reducible assumption) | (with_reducible refine Below.alloc ?_ ?_ _) | (with_reducible refine Below.drew ?_) | (with_reducible refine Below.setCell ?_ ?_ _) | (with_reducible refine bstep (by assumption) ?_ ?_) | (with_reducible exact Nat.le_refl _) | omega | (simp [*]; done) | (simp [*]; omega)))
  have K0 : Blk v0 w.heap.size 37 #[.int .i64 i0, .int .i64 t0, .slice A n c, .slice B m d, .int .i64 l0, .int .i64 l1, .int .i64 l2] := by rw [hv0]; exact (Blk.new_at _ _ _ _ (by simp)).alloc _
  have K1 : Blk v0 (w.heap.size + 1) 43 #[.int .i64 0, .int .i64 0, .int .i64 0, .int .i64 0, .int .i64 0, .int .i64 0, .int .i64 0, .int .i64 0, .int .i64 0] := by rw [hv0]; exact Blk.new_at _ _ _ _ (by simp)
  clear hv0
  obtain ⟨gr, hgr⟩ : ∃ g, g = w.heap.size + 1 := ⟨_, rfl⟩
  rw [← hgr] at K1
  try rw [← hgr]
  have hp := hD.lt
  have H0 := Lib.hid (show NX w v0 p w.heap.size gr _ from ⟨K0, K1, hD.new f0, wrote_below f0 _, hp, by omega⟩)
  have hsr : ¬ w.heap.size = gr := by omega
  have hrs : ¬ gr = w.heap.size := by omega
  have HJ := Lib.hid (HQ.out.below f0)
  have lgr := K1.lt
  clear K0 K1 f0 hD
  refine (below_dc p 4 v0 H0.out.d (by decide)).mono ?_
  rintro e v1 ⟨x, rfl, ⟨x0, x1⟩, D, W⟩
  have H1 := Lib.hid (H0.out.dice W D)
  clear D W H0
  have lt_S := H1.out.s.lt
  obtain ⟨r_S0, r_S1, r_S2, r_S3, r_S4, r_S5, r_S6⟩ := bc7 H1.out.s
  go_upto_region 2 with fail
  go_cut [6] (fun ov wx => ∃ (g : Nat) (o0 o1 o2 o3 o4 : Int), ov = .pointer (some ⟨g, 0, none⟩) ∧ gr < g ∧ Hid (Blk wx g 41 #[.int .i64 o0, .int .i64 o1, .int .i64 o2, .int .i64 o3, .int .i64 o4]) ∧ Hid (NX w wx p w.heap.size gr #[.int .i64 i0, .int .i64 t0, .slice A n c, .slice B m d, .int .i64 l0, .int .i64 l1, .int .i64 l2]))
  case first =>
    have hS0 : ∀ b o, b < v1.heap.size → b ≠ p → v1.cell? ⟨b, o, none⟩ = v1.cell? ⟨b, o, none⟩ := fun b o hb hk => rfl
    have nsp : ¬ w.heap.size = p := by omega
    have lr1 := H1.out.r.lt
    go_region_with (first | (go_at_call 19; refine (below_dc p 9 _ ?_ (by decide)).mono ?_; (with_reducible exact H1.out.drew.d); rintro e v2 ⟨y, rfl, ⟨y0, y1⟩, D, W⟩; have W1 : Wrote v1 v2 (some ⟨p, 0, none⟩) := (by with_reducible exact wrote_u W); have H2 := Lib.hid (H1.out.dice W1 D); have hS2 : ∀ b o, b < v1.heap.size → b ≠ p → v2.cell? ⟨b, o, none⟩ = v1.cell? ⟨b, o, none⟩ := fun b o hb hk => World.cell?_of_block (a := ⟨b, o, none⟩) (World.grownBy.block W1 b hb (by simpa using hk)); have z2 := W1.size; have q5 : v2.cell? ⟨w.heap.size, 5, none⟩ = some (.int .i64 l1) := H2.out.s.cell 5; have q4 : v2.cell? ⟨w.heap.size, 4, none⟩ = some (.int .i64 l0) := H2.out.s.cell 4; have lS := H2.out.s.lt) | (go_at_call 19; refine (below_dc p 9 _ ?_ (by decide)).mono ?_; (with_reducible exact (H1.out.alloc _).drew.d); rintro e v2 ⟨y, rfl, ⟨y0, y1⟩, D, W⟩; have KB : Blk v2 v1.heap.size 41 #[.int .i64 0, .int .i64 0, .int .i64 0, .int .i64 0, .int .i64 0] := kb_ad W (by omega); have W1 : Wrote v1 v2 (some ⟨p, 0, none⟩) := (by with_reducible exact wrote_ad W); have H2 := Lib.hid (H1.out.dice W1 D); have hS2 : ∀ b o, b < v1.heap.size → b ≠ p → v2.cell? ⟨b, o, none⟩ = v1.cell? ⟨b, o, none⟩ := fun b o hb hk => World.cell?_of_block (a := ⟨b, o, none⟩) (World.grownBy.block W1 b hb (by simpa using hk)); have z2 := W1.size; have q5 : v2.cell? ⟨w.heap.size, 5, none⟩ = some (.int .i64 l1) := H2.out.s.cell 5; have q4 : v2.cell? ⟨w.heap.size, 4, none⟩ = some (.int .i64 l0) := H2.out.s.cell 4; have lS := H2.out.s.lt; have kb0 : v2.cell? ⟨v1.heap.size, 0, none⟩ = some (.int .i64 0) := KB.cell 0; have kf0 := KB.frozen 0; have kb1 : v2.cell? ⟨v1.heap.size, 1, none⟩ = some (.int .i64 0) := KB.cell 1; have kf1 := KB.frozen 1; have kb2 : v2.cell? ⟨v1.heap.size, 2, none⟩ = some (.int .i64 0) := KB.cell 2; have kf2 := KB.frozen 2; have kb3 : v2.cell? ⟨v1.heap.size, 3, none⟩ = some (.int .i64 0) := KB.cell 3; have kf3 := KB.frozen 3; have kb4 : v2.cell? ⟨v1.heap.size, 4, none⟩ = some (.int .i64 0) := KB.cell 4; have kf4 := KB.frozen 4; have kbl := KB.lt))
    all_goals go_wp2_with fail
    all_goals go_meet
    all_goals first
      | with_reducible exact f1_alloc H2.out
      | with_reducible exact f1_set H2.out KB (by omega) (by omega) (by omega)
  case rest =>
    obtain ⟨g, o0, o1, o2, o3, o4, rfl, hg, KO3, H3⟩ := hcut
    rename World => v3
    clear lt_S r_S0 r_S1 r_S2 r_S3 r_S4 r_S5 r_S6
    clear H1
    go_wp2_with fail
    refine (below_dc p 10 v3 H3.out.d (by decide)).mono ?_
    rintro e v4 ⟨z, rfl, ⟨z0, z1⟩, D, W⟩
    have H4 := Lib.hid (H3.out.dice W D)
    have KO4 := Lib.hid (KO3.out.wrote2 W (by have := H3.out.pr; omega))
    clear D W H3 KO3
    have hzs : w.heap.size ≤ g := by omega
    have hsg : ¬ w.heap.size = g := by omega
    go_upto_block 0 with fail
    go_cut [5] (fun cv wx => ∃ (id o0 o1 o2 o3 o4 : Int), cv = .int .i64 id ∧ (0 ≤ id ∧ id ≤ 5) ∧ Hid (Blk wx g 41 #[.int .i64 o0, .int .i64 o1, .int .i64 o2, .int .i64 o3, .int .i64 o4]) ∧ Hid (NX w wx p w.heap.size gr #[.int .i64 i0, .int .i64 t0, .slice A n c, .slice B m d, .int .i64 l0, .int .i64 l1, .int .i64 l2]))
    case first =>
      have hz : (z = 0 ∨ z = 1) ∨ z = 2 ∨ (z = 3 ∨ z = 4 ∨ z = 5) ∨ (z = 6 ∨ z = 7) ∨ (z = 8 ∨ z = 9) := by omega
      rcases hz with hz | hz | hz | hz | hz
      · rcases hz with rfl | rfl
        · go_wp2_with fail
          refine (below_dc p 5 v4 H4.out.d (by decide)).mono ?_
          rintro e v5 ⟨y, rfl, ⟨y0, y1⟩, D, W⟩
          have H5 := Lib.hid (H4.out.dice W D)
          have KO5 := Lib.hid (KO4.out.wrote2 W (by have := H4.out.pr; omega))
          clear D W H4 KO4
          go_wp2_with fail
          refine (below_dc p 9 v5 H5.out.d (by decide)).mono ?_
          rintro e v6 ⟨u, rfl, ⟨u0, u1⟩, D, W⟩
          have H6 := Lib.hid (H5.out.dice W D)
          have KO6 := Lib.hid (KO5.out.wrote2 W (by have := H5.out.pr; omega))
          clear D W H5 KO5
          have k_l := KO6.out.lt
          have k_0 : v6.cell? ⟨g, 0, none⟩ = some (.int .i64 o0) := KO6.out.cell 0
          have kf_0 : v6.frozen? ⟨g, 0, none⟩ = false := KO6.out.frozen 0
          have k_1 : v6.cell? ⟨g, 1, none⟩ = some (.int .i64 o1) := KO6.out.cell 1
          have kf_1 : v6.frozen? ⟨g, 1, none⟩ = false := KO6.out.frozen 1
          have k_2 : v6.cell? ⟨g, 2, none⟩ = some (.int .i64 o2) := KO6.out.cell 2
          have kf_2 : v6.frozen? ⟨g, 2, none⟩ = false := KO6.out.frozen 2
          have k_3 : v6.cell? ⟨g, 3, none⟩ = some (.int .i64 o3) := KO6.out.cell 3
          have kf_3 : v6.frozen? ⟨g, 3, none⟩ = false := KO6.out.frozen 3
          have k_4 : v6.cell? ⟨g, 4, none⟩ = some (.int .i64 o4) := KO6.out.cell 4
          have kf_4 : v6.frozen? ⟨g, 4, none⟩ = false := KO6.out.frozen 4
          go_wp2_with fail
          go_meet
          with_reducible exact f2_set H6.out KO6.out hzs hsg hg (by omega)
        · go_wp2_with fail
          refine (below_dc p 5 v4 H4.out.d (by decide)).mono ?_
          rintro e v5 ⟨y, rfl, ⟨y0, y1⟩, D, W⟩
          have H5 := Lib.hid (H4.out.dice W D)
          have KO5 := Lib.hid (KO4.out.wrote2 W (by have := H4.out.pr; omega))
          clear D W H4 KO4
          go_wp2_with fail
          refine (below_dc p 9 v5 H5.out.d (by decide)).mono ?_
          rintro e v6 ⟨u, rfl, ⟨u0, u1⟩, D, W⟩
          have H6 := Lib.hid (H5.out.dice W D)
          have KO6 := Lib.hid (KO5.out.wrote2 W (by have := H5.out.pr; omega))
          clear D W H5 KO5
          have k_l := KO6.out.lt
          have k_0 : v6.cell? ⟨g, 0, none⟩ = some (.int .i64 o0) := KO6.out.cell 0
          have kf_0 : v6.frozen? ⟨g, 0, none⟩ = false := KO6.out.frozen 0
          have k_1 : v6.cell? ⟨g, 1, none⟩ = some (.int .i64 o1) := KO6.out.cell 1
          have kf_1 : v6.frozen? ⟨g, 1, none⟩ = false := KO6.out.frozen 1
          have k_2 : v6.cell? ⟨g, 2, none⟩ = some (.int .i64 o2) := KO6.out.cell 2
          have kf_2 : v6.frozen? ⟨g, 2, none⟩ = false := KO6.out.frozen 2
          have k_3 : v6.cell? ⟨g, 3, none⟩ = some (.int .i64 o3) := KO6.out.cell 3
          have kf_3 : v6.frozen? ⟨g, 3, none⟩ = false := KO6.out.frozen 3
          have k_4 : v6.cell? ⟨g, 4, none⟩ = some (.int .i64 o4) := KO6.out.cell 4
          have kf_4 : v6.frozen? ⟨g, 4, none⟩ = false := KO6.out.frozen 4
          go_wp2_with fail
          go_meet
          with_reducible exact f2_set H6.out KO6.out hzs hsg hg (by omega)

      · subst hz
        go_wp2_with fail
        refine (below_dc p 5 v4 H4.out.d (by decide)).mono ?_
        rintro e v5 ⟨y, rfl, ⟨y0, y1⟩, D, W⟩
        have H5 := Lib.hid (H4.out.dice W D)
        have KO5 := Lib.hid (KO4.out.wrote2 W (by have := H4.out.pr; omega))
        clear D W H4 KO4
        have k_l := KO5.out.lt
        have k_0 : v5.cell? ⟨g, 0, none⟩ = some (.int .i64 o0) := KO5.out.cell 0
        have kf_0 : v5.frozen? ⟨g, 0, none⟩ = false := KO5.out.frozen 0
        have k_1 : v5.cell? ⟨g, 1, none⟩ = some (.int .i64 o1) := KO5.out.cell 1
        have kf_1 : v5.frozen? ⟨g, 1, none⟩ = false := KO5.out.frozen 1
        have k_2 : v5.cell? ⟨g, 2, none⟩ = some (.int .i64 o2) := KO5.out.cell 2
        have kf_2 : v5.frozen? ⟨g, 2, none⟩ = false := KO5.out.frozen 2
        have k_3 : v5.cell? ⟨g, 3, none⟩ = some (.int .i64 o3) := KO5.out.cell 3
        have kf_3 : v5.frozen? ⟨g, 3, none⟩ = false := KO5.out.frozen 3
        have k_4 : v5.cell? ⟨g, 4, none⟩ = some (.int .i64 o4) := KO5.out.cell 4
        have kf_4 : v5.frozen? ⟨g, 4, none⟩ = false := KO5.out.frozen 4
        go_wp2_with fail
        go_meet
        with_reducible exact f2_set H5.out KO5.out hzs hsg hg (by omega)
      · rcases hz with rfl | rfl | rfl
        · have hpg : g ≠ p := by have := H4.out.pr; omega
          have hS0 : v4.drew.cell? ⟨w.heap.size, 1, none⟩ = some (.int .i64 t0) := H4.out.s.cell 1
          go_upto_region 17 with fail
          go_region_held_law (fun w' => w'.cell? ⟨w.heap.size, 1, none⟩ = some (.int .i64 t0)) (first | with_reducible assumption | with_reducible exact s17_far hS4 hsg) (first | (go_at_call 19; have hcc := below_dc p 9 v4.drew H4.out.drew.d (by decide); (with_reducible refine hcc.mono ?_); clear hcc; rintro e v5 ⟨y0, rfl, ⟨a0, b0⟩, D, W0⟩; have W : Wrote v4 v5 (some ⟨p, 0, none⟩) := (by with_reducible exact wrote_u W0); have H5 := Lib.hid (H4.out.dice W D); have KO5 := Lib.hid (KO4.out.wrote2 W hpg); have hS1 : v5.cell? ⟨w.heap.size, 1, none⟩ = some (.int .i64 t0) := H5.out.s.cell 1; clear D W W0) | (go_at_call 19; have hcc := below_dc p 12 v5 H5.out.d (by decide); (with_reducible refine hcc.mono ?_); clear hcc; rintro e v6 ⟨y1, rfl, ⟨a1, b1⟩, D, W0⟩; have W : Wrote v5 v6 (some ⟨p, 0, none⟩) := (by with_reducible exact W0); have H6 := Lib.hid (H5.out.dice W D); have KO6 := Lib.hid (KO5.out.wrote2 W hpg); have hS2 : v6.cell? ⟨w.heap.size, 1, none⟩ = some (.int .i64 t0) := H6.out.s.cell 1; clear D W W0) | (go_at_call 19; have hcc := below_dc p 5 v6 H6.out.d (by decide); (with_reducible refine hcc.mono ?_); clear hcc; rintro e v7 ⟨y2, rfl, ⟨a2, b2⟩, D, W0⟩; have W : Wrote v6 v7 (some ⟨p, 0, none⟩) := (by with_reducible exact W0); have H7 := Lib.hid (H6.out.dice W D); have KO7 := Lib.hid (KO6.out.wrote2 W hpg); have hS3 : v7.cell? ⟨w.heap.size, 1, none⟩ = some (.int .i64 t0) := H7.out.s.cell 1; clear D W W0) | (go_at_call 19; have hcc := below_dc p 9 v7 H7.out.d (by decide); (with_reducible refine hcc.mono ?_); clear hcc; rintro e v8 ⟨y3, rfl, ⟨a3, b3⟩, D, W0⟩; have W : Wrote v7 v8 (some ⟨p, 0, none⟩) := (by with_reducible exact W0); have H8 := Lib.hid (H7.out.dice W D); have KO8 := Lib.hid (KO7.out.wrote2 W hpg); have hS4 : v8.cell? ⟨w.heap.size, 1, none⟩ = some (.int .i64 t0) := H8.out.s.cell 1; clear D W W0; have k_l := KO8.out.lt; have k_0 : v8.cell? ⟨g, 0, none⟩ = some (.int .i64 o0) := KO8.out.cell 0; have kf_0 : v8.frozen? ⟨g, 0, none⟩ = false := KO8.out.frozen 0; have k_1 : v8.cell? ⟨g, 1, none⟩ = some (.int .i64 o1) := KO8.out.cell 1; have kf_1 : v8.frozen? ⟨g, 1, none⟩ = false := KO8.out.frozen 1; have k_2 : v8.cell? ⟨g, 2, none⟩ = some (.int .i64 o2) := KO8.out.cell 2; have kf_2 : v8.frozen? ⟨g, 2, none⟩ = false := KO8.out.frozen 2; have k_3 : v8.cell? ⟨g, 3, none⟩ = some (.int .i64 o3) := KO8.out.cell 3; have kf_3 : v8.frozen? ⟨g, 3, none⟩ = false := KO8.out.frozen 3; have k_4 : v8.cell? ⟨g, 4, none⟩ = some (.int .i64 o4) := KO8.out.cell 4; have kf_4 : v8.frozen? ⟨g, 4, none⟩ = false := KO8.out.frozen 4))
          all_goals go_wp2_with fail
          all_goals go_meet
          all_goals with_reducible exact f2_set H8.out KO8.out hzs hsg hg (by omega)
        · have hpg : g ≠ p := by have := H4.out.pr; omega
          have hS0 : v4.drew.cell? ⟨w.heap.size, 1, none⟩ = some (.int .i64 t0) := H4.out.s.cell 1
          go_upto_region 17 with fail
          go_region_held_law (fun w' => w'.cell? ⟨w.heap.size, 1, none⟩ = some (.int .i64 t0)) (first | with_reducible assumption | with_reducible exact s17_far hS4 hsg) (first | (go_at_call 19; have hcc := below_dc p 9 v4.drew H4.out.drew.d (by decide); (with_reducible refine hcc.mono ?_); clear hcc; rintro e v5 ⟨y0, rfl, ⟨a0, b0⟩, D, W0⟩; have W : Wrote v4 v5 (some ⟨p, 0, none⟩) := (by with_reducible exact wrote_u W0); have H5 := Lib.hid (H4.out.dice W D); have KO5 := Lib.hid (KO4.out.wrote2 W hpg); have hS1 : v5.cell? ⟨w.heap.size, 1, none⟩ = some (.int .i64 t0) := H5.out.s.cell 1; clear D W W0) | (go_at_call 19; have hcc := below_dc p 12 v5 H5.out.d (by decide); (with_reducible refine hcc.mono ?_); clear hcc; rintro e v6 ⟨y1, rfl, ⟨a1, b1⟩, D, W0⟩; have W : Wrote v5 v6 (some ⟨p, 0, none⟩) := (by with_reducible exact W0); have H6 := Lib.hid (H5.out.dice W D); have KO6 := Lib.hid (KO5.out.wrote2 W hpg); have hS2 : v6.cell? ⟨w.heap.size, 1, none⟩ = some (.int .i64 t0) := H6.out.s.cell 1; clear D W W0) | (go_at_call 19; have hcc := below_dc p 5 v6 H6.out.d (by decide); (with_reducible refine hcc.mono ?_); clear hcc; rintro e v7 ⟨y2, rfl, ⟨a2, b2⟩, D, W0⟩; have W : Wrote v6 v7 (some ⟨p, 0, none⟩) := (by with_reducible exact W0); have H7 := Lib.hid (H6.out.dice W D); have KO7 := Lib.hid (KO6.out.wrote2 W hpg); have hS3 : v7.cell? ⟨w.heap.size, 1, none⟩ = some (.int .i64 t0) := H7.out.s.cell 1; clear D W W0) | (go_at_call 19; have hcc := below_dc p 9 v7 H7.out.d (by decide); (with_reducible refine hcc.mono ?_); clear hcc; rintro e v8 ⟨y3, rfl, ⟨a3, b3⟩, D, W0⟩; have W : Wrote v7 v8 (some ⟨p, 0, none⟩) := (by with_reducible exact W0); have H8 := Lib.hid (H7.out.dice W D); have KO8 := Lib.hid (KO7.out.wrote2 W hpg); have hS4 : v8.cell? ⟨w.heap.size, 1, none⟩ = some (.int .i64 t0) := H8.out.s.cell 1; clear D W W0; have k_l := KO8.out.lt; have k_0 : v8.cell? ⟨g, 0, none⟩ = some (.int .i64 o0) := KO8.out.cell 0; have kf_0 : v8.frozen? ⟨g, 0, none⟩ = false := KO8.out.frozen 0; have k_1 : v8.cell? ⟨g, 1, none⟩ = some (.int .i64 o1) := KO8.out.cell 1; have kf_1 : v8.frozen? ⟨g, 1, none⟩ = false := KO8.out.frozen 1; have k_2 : v8.cell? ⟨g, 2, none⟩ = some (.int .i64 o2) := KO8.out.cell 2; have kf_2 : v8.frozen? ⟨g, 2, none⟩ = false := KO8.out.frozen 2; have k_3 : v8.cell? ⟨g, 3, none⟩ = some (.int .i64 o3) := KO8.out.cell 3; have kf_3 : v8.frozen? ⟨g, 3, none⟩ = false := KO8.out.frozen 3; have k_4 : v8.cell? ⟨g, 4, none⟩ = some (.int .i64 o4) := KO8.out.cell 4; have kf_4 : v8.frozen? ⟨g, 4, none⟩ = false := KO8.out.frozen 4))
          all_goals go_wp2_with fail
          all_goals go_meet
          all_goals with_reducible exact f2_set H8.out KO8.out hzs hsg hg (by omega)
        · have hpg : g ≠ p := by have := H4.out.pr; omega
          have hS0 : v4.drew.cell? ⟨w.heap.size, 1, none⟩ = some (.int .i64 t0) := H4.out.s.cell 1
          go_upto_region 17 with fail
          go_region_held_law (fun w' => w'.cell? ⟨w.heap.size, 1, none⟩ = some (.int .i64 t0)) (first | with_reducible assumption | with_reducible exact s17_far hS4 hsg) (first | (go_at_call 19; have hcc := below_dc p 9 v4.drew H4.out.drew.d (by decide); (with_reducible refine hcc.mono ?_); clear hcc; rintro e v5 ⟨y0, rfl, ⟨a0, b0⟩, D, W0⟩; have W : Wrote v4 v5 (some ⟨p, 0, none⟩) := (by with_reducible exact wrote_u W0); have H5 := Lib.hid (H4.out.dice W D); have KO5 := Lib.hid (KO4.out.wrote2 W hpg); have hS1 : v5.cell? ⟨w.heap.size, 1, none⟩ = some (.int .i64 t0) := H5.out.s.cell 1; clear D W W0) | (go_at_call 19; have hcc := below_dc p 12 v5 H5.out.d (by decide); (with_reducible refine hcc.mono ?_); clear hcc; rintro e v6 ⟨y1, rfl, ⟨a1, b1⟩, D, W0⟩; have W : Wrote v5 v6 (some ⟨p, 0, none⟩) := (by with_reducible exact W0); have H6 := Lib.hid (H5.out.dice W D); have KO6 := Lib.hid (KO5.out.wrote2 W hpg); have hS2 : v6.cell? ⟨w.heap.size, 1, none⟩ = some (.int .i64 t0) := H6.out.s.cell 1; clear D W W0) | (go_at_call 19; have hcc := below_dc p 5 v6 H6.out.d (by decide); (with_reducible refine hcc.mono ?_); clear hcc; rintro e v7 ⟨y2, rfl, ⟨a2, b2⟩, D, W0⟩; have W : Wrote v6 v7 (some ⟨p, 0, none⟩) := (by with_reducible exact W0); have H7 := Lib.hid (H6.out.dice W D); have KO7 := Lib.hid (KO6.out.wrote2 W hpg); have hS3 : v7.cell? ⟨w.heap.size, 1, none⟩ = some (.int .i64 t0) := H7.out.s.cell 1; clear D W W0) | (go_at_call 19; have hcc := below_dc p 9 v7 H7.out.d (by decide); (with_reducible refine hcc.mono ?_); clear hcc; rintro e v8 ⟨y3, rfl, ⟨a3, b3⟩, D, W0⟩; have W : Wrote v7 v8 (some ⟨p, 0, none⟩) := (by with_reducible exact W0); have H8 := Lib.hid (H7.out.dice W D); have KO8 := Lib.hid (KO7.out.wrote2 W hpg); have hS4 : v8.cell? ⟨w.heap.size, 1, none⟩ = some (.int .i64 t0) := H8.out.s.cell 1; clear D W W0; have k_l := KO8.out.lt; have k_0 : v8.cell? ⟨g, 0, none⟩ = some (.int .i64 o0) := KO8.out.cell 0; have kf_0 : v8.frozen? ⟨g, 0, none⟩ = false := KO8.out.frozen 0; have k_1 : v8.cell? ⟨g, 1, none⟩ = some (.int .i64 o1) := KO8.out.cell 1; have kf_1 : v8.frozen? ⟨g, 1, none⟩ = false := KO8.out.frozen 1; have k_2 : v8.cell? ⟨g, 2, none⟩ = some (.int .i64 o2) := KO8.out.cell 2; have kf_2 : v8.frozen? ⟨g, 2, none⟩ = false := KO8.out.frozen 2; have k_3 : v8.cell? ⟨g, 3, none⟩ = some (.int .i64 o3) := KO8.out.cell 3; have kf_3 : v8.frozen? ⟨g, 3, none⟩ = false := KO8.out.frozen 3; have k_4 : v8.cell? ⟨g, 4, none⟩ = some (.int .i64 o4) := KO8.out.cell 4; have kf_4 : v8.frozen? ⟨g, 4, none⟩ = false := KO8.out.frozen 4))
          all_goals go_wp2_with fail
          all_goals go_meet
          all_goals with_reducible exact f2_set H8.out KO8.out hzs hsg hg (by omega)

      · rcases hz with rfl | rfl
        · go_wp2_with fail
          refine (below_dc p 25 v4 H4.out.d (by decide)).mono ?_
          rintro e v5 ⟨y, rfl, ⟨y0, y1⟩, D, W⟩
          have H5 := Lib.hid (H4.out.dice W D)
          have KO5 := Lib.hid (KO4.out.wrote2 W (by have := H4.out.pr; omega))
          clear D W H4 KO4
          have k_l := KO5.out.lt
          have k_0 : v5.cell? ⟨g, 0, none⟩ = some (.int .i64 o0) := KO5.out.cell 0
          have kf_0 : v5.frozen? ⟨g, 0, none⟩ = false := KO5.out.frozen 0
          have k_1 : v5.cell? ⟨g, 1, none⟩ = some (.int .i64 o1) := KO5.out.cell 1
          have kf_1 : v5.frozen? ⟨g, 1, none⟩ = false := KO5.out.frozen 1
          have k_2 : v5.cell? ⟨g, 2, none⟩ = some (.int .i64 o2) := KO5.out.cell 2
          have kf_2 : v5.frozen? ⟨g, 2, none⟩ = false := KO5.out.frozen 2
          have k_3 : v5.cell? ⟨g, 3, none⟩ = some (.int .i64 o3) := KO5.out.cell 3
          have kf_3 : v5.frozen? ⟨g, 3, none⟩ = false := KO5.out.frozen 3
          have k_4 : v5.cell? ⟨g, 4, none⟩ = some (.int .i64 o4) := KO5.out.cell 4
          have kf_4 : v5.frozen? ⟨g, 4, none⟩ = false := KO5.out.frozen 4
          go_wp2_with fail
          refine calls_named ?_
          rintro v6 hv6
          have E6 : ∃ (id o0 o1 o2 o3 o4 : Int), Value.int .i64 0 = .int .i64 id ∧ (0 ≤ id ∧ id ≤ 5) ∧ Hid (Blk v6 g 41 #[.int .i64 o0, .int .i64 o1, .int .i64 o2, .int .i64 o3, .int .i64 o4]) ∧ Hid (NX w v6 p w.heap.size gr #[.int .i64 i0, .int .i64 t0, .slice A n c, .slice B m d, .int .i64 l0, .int .i64 l1, .int .i64 l2]) := by
            rw [hv6]
            with_reducible exact f2_set H5.out KO5.out hzs hsg hg (by omega)
          clear hv6 k_0 kf_0 k_1 kf_1 k_2 kf_2 k_3 kf_3 k_4 kf_4 k_l H5 KO5
          obtain ⟨_, s0, s1, s2, s3, s4, _, _, KO6, H6⟩ := E6
          refine (below_dc p 2 v6 H6.out.d (by decide)).mono ?_
          rintro e v7 ⟨u, rfl, ⟨u0, u1⟩, D, W⟩
          have H7 := Lib.hid (H6.out.dice W D)
          have KO7 := Lib.hid (KO6.out.wrote2 W (by have := H6.out.pr; omega))
          clear D W H6 KO6
          go_wp2_with fail
          go_meet
          with_reducible exact f2_id H7.out KO7.out (by omega)
        · go_wp2_with fail
          refine (below_dc p 25 v4 H4.out.d (by decide)).mono ?_
          rintro e v5 ⟨y, rfl, ⟨y0, y1⟩, D, W⟩
          have H5 := Lib.hid (H4.out.dice W D)
          have KO5 := Lib.hid (KO4.out.wrote2 W (by have := H4.out.pr; omega))
          clear D W H4 KO4
          have k_l := KO5.out.lt
          have k_0 : v5.cell? ⟨g, 0, none⟩ = some (.int .i64 o0) := KO5.out.cell 0
          have kf_0 : v5.frozen? ⟨g, 0, none⟩ = false := KO5.out.frozen 0
          have k_1 : v5.cell? ⟨g, 1, none⟩ = some (.int .i64 o1) := KO5.out.cell 1
          have kf_1 : v5.frozen? ⟨g, 1, none⟩ = false := KO5.out.frozen 1
          have k_2 : v5.cell? ⟨g, 2, none⟩ = some (.int .i64 o2) := KO5.out.cell 2
          have kf_2 : v5.frozen? ⟨g, 2, none⟩ = false := KO5.out.frozen 2
          have k_3 : v5.cell? ⟨g, 3, none⟩ = some (.int .i64 o3) := KO5.out.cell 3
          have kf_3 : v5.frozen? ⟨g, 3, none⟩ = false := KO5.out.frozen 3
          have k_4 : v5.cell? ⟨g, 4, none⟩ = some (.int .i64 o4) := KO5.out.cell 4
          have kf_4 : v5.frozen? ⟨g, 4, none⟩ = false := KO5.out.frozen 4
          go_wp2_with fail
          refine calls_named ?_
          rintro v6 hv6
          have E6 : ∃ (id o0 o1 o2 o3 o4 : Int), Value.int .i64 0 = .int .i64 id ∧ (0 ≤ id ∧ id ≤ 5) ∧ Hid (Blk v6 g 41 #[.int .i64 o0, .int .i64 o1, .int .i64 o2, .int .i64 o3, .int .i64 o4]) ∧ Hid (NX w v6 p w.heap.size gr #[.int .i64 i0, .int .i64 t0, .slice A n c, .slice B m d, .int .i64 l0, .int .i64 l1, .int .i64 l2]) := by
            rw [hv6]
            with_reducible exact f2_set H5.out KO5.out hzs hsg hg (by omega)
          clear hv6 k_0 kf_0 k_1 kf_1 k_2 kf_2 k_3 kf_3 k_4 kf_4 k_l H5 KO5
          obtain ⟨_, s0, s1, s2, s3, s4, _, _, KO6, H6⟩ := E6
          refine (below_dc p 2 v6 H6.out.d (by decide)).mono ?_
          rintro e v7 ⟨u, rfl, ⟨u0, u1⟩, D, W⟩
          have H7 := Lib.hid (H6.out.dice W D)
          have KO7 := Lib.hid (KO6.out.wrote2 W (by have := H6.out.pr; omega))
          clear D W H6 KO6
          go_wp2_with fail
          go_meet
          with_reducible exact f2_id H7.out KO7.out (by omega)

      · rcases hz with rfl | rfl
        · have r3 : v4.cell? ⟨w.heap.size, 3, none⟩ = some (.slice B m d) := H4.out.s.cell 3
          have l3 := H4.out.s.lt
          go_wp2_with fail
          refine (specOpenJobs_any B m d ql v4 (sl_wrote HQ.out H4.out.f hne) HR.out hm).mono ?_
          rintro e v5 ⟨AA, cc, rfl, R, hb⟩
          have H5 := Lib.hid (H4.out.below hb)
          have KO5 := Lib.hid (KO4.out.below hb)
          have RS := R.sl
          clear R hb r3 l3
          have r4_5 : v5.cell? ⟨w.heap.size, 4, none⟩ = some (.int .i64 l0) := H5.out.s.cell 4
          have l4_5 := H5.out.s.lt
          have k_l := KO5.out.lt
          have k_0 : v5.cell? ⟨g, 0, none⟩ = some (.int .i64 o0) := KO5.out.cell 0
          have kf_0 : v5.frozen? ⟨g, 0, none⟩ = false := KO5.out.frozen 0
          have k_1 : v5.cell? ⟨g, 1, none⟩ = some (.int .i64 o1) := KO5.out.cell 1
          have kf_1 : v5.frozen? ⟨g, 1, none⟩ = false := KO5.out.frozen 1
          have k_2 : v5.cell? ⟨g, 2, none⟩ = some (.int .i64 o2) := KO5.out.cell 2
          have kf_2 : v5.frozen? ⟨g, 2, none⟩ = false := KO5.out.frozen 2
          have k_3 : v5.cell? ⟨g, 3, none⟩ = some (.int .i64 o3) := KO5.out.cell 3
          have kf_3 : v5.frozen? ⟨g, 3, none⟩ = false := KO5.out.frozen 3
          have k_4 : v5.cell? ⟨g, 4, none⟩ = some (.int .i64 o4) := KO5.out.cell 4
          have kf_4 : v5.frozen? ⟨g, 4, none⟩ = false := KO5.out.frozen 4
          generalize DU (openR ql) = zs at RS
          generalize (openR ql).length = N at *
          rcases Nat.eq_zero_or_pos N with hN | hN
          · subst hN
            by_cases hl : 0 < l0
            · go_wp2_with fail
              refine (below_dc p 4 v5 H5.out.d (by decide)).mono ?_
              rintro e v6 ⟨u, rfl, ⟨u0, u1⟩, D, W⟩
              have H6 := Lib.hid (H5.out.dice W D)
              have KO6 := Lib.hid (KO5.out.wrote2 W (by have := H5.out.pr; omega))
              clear D W H5 KO5
              have q4_6 : v6.cell? ⟨w.heap.size, 4, none⟩ = some (.int .i64 l0) := H6.out.s.cell 4
              have m4_6 := H6.out.s.lt
              have hl0 : l0 = 2 ∨ l0 = 3 := by
                have hL := (lease_bounds HSt.out.2.2.2.2.1 (by omega)).1
                simpa [whoB] using hL
              by_cases hu : 0 < u
              · go_wp2_with fail
                go_meet
                with_reducible exact f2_id H6.out KO6.out (by omega)
              · go_wp2_with fail
                go_meet
                with_reducible exact f2_id H6.out KO6.out (by omega)

            · go_wp2_with fail
              go_meet
              with_reducible exact f2_id H5.out KO5.out (by omega)

          · obtain ⟨b1, off1, rfl, hb1, hc1⟩ := RS.2 hN
            have e0 : v5.cell? ⟨b1, off1, none⟩ = some (.int .i64 (zs.getD 0 0)) := hc1 0 (by omega)
            clear hc1 RS
            by_cases hl : 0 < l0
            · go_wp2_with fail
              refine calls_named ?_
              rintro v6 hv6
              have E6 : ∃ (id o0 o1 o2 o3 o4 : Int), Value.int .i64 0 = .int .i64 id ∧ (0 ≤ id ∧ id ≤ 5) ∧ Hid (Blk v6 g 41 #[.int .i64 o0, .int .i64 o1, .int .i64 o2, .int .i64 o3, .int .i64 o4]) ∧ Hid (NX w v6 p w.heap.size gr #[.int .i64 i0, .int .i64 t0, .slice A n c, .slice B m d, .int .i64 l0, .int .i64 l1, .int .i64 l2]) := by
                rw [hv6]
                with_reducible exact f2_one H5.out KO5.out hzs hsg hg (by omega)
              clear hv6
              obtain ⟨_, s0, s1, s2, s3, s4, _, _, KO6, H6⟩ := E6
              refine (below_dc p 4 v6 H6.out.d (by decide)).mono ?_
              rintro e v7 ⟨u, rfl, ⟨u0, u1⟩, D, W⟩
              have H7 := Lib.hid (H6.out.dice W D)
              have KO7 := Lib.hid (KO6.out.wrote2 W (by have := H6.out.pr; omega))
              clear D W H6 KO6
              have q4_7 : v7.cell? ⟨w.heap.size, 4, none⟩ = some (.int .i64 l0) := H7.out.s.cell 4
              have m4_7 := H7.out.s.lt
              have hl0 : l0 = 2 ∨ l0 = 3 := by
                have hL := (lease_bounds HSt.out.2.2.2.2.1 (by omega)).1
                simpa [whoB] using hL
              by_cases hu : 0 < u
              · go_wp2_with fail
                go_meet
                with_reducible exact f2_id H7.out KO7.out (by omega)
              · go_wp2_with fail
                go_meet
                with_reducible exact f2_id H7.out KO7.out (by omega)

            · go_wp2_with fail
              go_meet
              with_reducible exact f2_one H5.out KO5.out hzs hsg hg (by omega)


        · have r3 : v4.cell? ⟨w.heap.size, 3, none⟩ = some (.slice B m d) := H4.out.s.cell 3
          have l3 := H4.out.s.lt
          go_wp2_with fail
          refine (specOpenJobs_any B m d ql v4 (sl_wrote HQ.out H4.out.f hne) HR.out hm).mono ?_
          rintro e v5 ⟨AA, cc, rfl, R, hb⟩
          have H5 := Lib.hid (H4.out.below hb)
          have KO5 := Lib.hid (KO4.out.below hb)
          have RS := R.sl
          clear R hb r3 l3
          have r4_5 : v5.cell? ⟨w.heap.size, 4, none⟩ = some (.int .i64 l0) := H5.out.s.cell 4
          have l4_5 := H5.out.s.lt
          have k_l := KO5.out.lt
          have k_0 : v5.cell? ⟨g, 0, none⟩ = some (.int .i64 o0) := KO5.out.cell 0
          have kf_0 : v5.frozen? ⟨g, 0, none⟩ = false := KO5.out.frozen 0
          have k_1 : v5.cell? ⟨g, 1, none⟩ = some (.int .i64 o1) := KO5.out.cell 1
          have kf_1 : v5.frozen? ⟨g, 1, none⟩ = false := KO5.out.frozen 1
          have k_2 : v5.cell? ⟨g, 2, none⟩ = some (.int .i64 o2) := KO5.out.cell 2
          have kf_2 : v5.frozen? ⟨g, 2, none⟩ = false := KO5.out.frozen 2
          have k_3 : v5.cell? ⟨g, 3, none⟩ = some (.int .i64 o3) := KO5.out.cell 3
          have kf_3 : v5.frozen? ⟨g, 3, none⟩ = false := KO5.out.frozen 3
          have k_4 : v5.cell? ⟨g, 4, none⟩ = some (.int .i64 o4) := KO5.out.cell 4
          have kf_4 : v5.frozen? ⟨g, 4, none⟩ = false := KO5.out.frozen 4
          generalize DU (openR ql) = zs at RS
          generalize (openR ql).length = N at *
          rcases Nat.eq_zero_or_pos N with hN | hN
          · subst hN
            by_cases hl : 0 < l0
            · go_wp2_with fail
              refine (below_dc p 4 v5 H5.out.d (by decide)).mono ?_
              rintro e v6 ⟨u, rfl, ⟨u0, u1⟩, D, W⟩
              have H6 := Lib.hid (H5.out.dice W D)
              have KO6 := Lib.hid (KO5.out.wrote2 W (by have := H5.out.pr; omega))
              clear D W H5 KO5
              have q4_6 : v6.cell? ⟨w.heap.size, 4, none⟩ = some (.int .i64 l0) := H6.out.s.cell 4
              have m4_6 := H6.out.s.lt
              have hl0 : l0 = 2 ∨ l0 = 3 := by
                have hL := (lease_bounds HSt.out.2.2.2.2.1 (by omega)).1
                simpa [whoB] using hL
              by_cases hu : 0 < u
              · go_wp2_with fail
                go_meet
                with_reducible exact f2_id H6.out KO6.out (by omega)
              · go_wp2_with fail
                go_meet
                with_reducible exact f2_id H6.out KO6.out (by omega)

            · go_wp2_with fail
              go_meet
              with_reducible exact f2_id H5.out KO5.out (by omega)

          · obtain ⟨b1, off1, rfl, hb1, hc1⟩ := RS.2 hN
            have e0 : v5.cell? ⟨b1, off1, none⟩ = some (.int .i64 (zs.getD 0 0)) := hc1 0 (by omega)
            clear hc1 RS
            by_cases hl : 0 < l0
            · go_wp2_with fail
              refine calls_named ?_
              rintro v6 hv6
              have E6 : ∃ (id o0 o1 o2 o3 o4 : Int), Value.int .i64 0 = .int .i64 id ∧ (0 ≤ id ∧ id ≤ 5) ∧ Hid (Blk v6 g 41 #[.int .i64 o0, .int .i64 o1, .int .i64 o2, .int .i64 o3, .int .i64 o4]) ∧ Hid (NX w v6 p w.heap.size gr #[.int .i64 i0, .int .i64 t0, .slice A n c, .slice B m d, .int .i64 l0, .int .i64 l1, .int .i64 l2]) := by
                rw [hv6]
                with_reducible exact f2_one H5.out KO5.out hzs hsg hg (by omega)
              clear hv6
              obtain ⟨_, s0, s1, s2, s3, s4, _, _, KO6, H6⟩ := E6
              refine (below_dc p 4 v6 H6.out.d (by decide)).mono ?_
              rintro e v7 ⟨u, rfl, ⟨u0, u1⟩, D, W⟩
              have H7 := Lib.hid (H6.out.dice W D)
              have KO7 := Lib.hid (KO6.out.wrote2 W (by have := H6.out.pr; omega))
              clear D W H6 KO6
              have q4_7 : v7.cell? ⟨w.heap.size, 4, none⟩ = some (.int .i64 l0) := H7.out.s.cell 4
              have m4_7 := H7.out.s.lt
              have hl0 : l0 = 2 ∨ l0 = 3 := by
                have hL := (lease_bounds HSt.out.2.2.2.2.1 (by omega)).1
                simpa [whoB] using hL
              by_cases hu : 0 < u
              · go_wp2_with fail
                go_meet
                with_reducible exact f2_id H7.out KO7.out (by omega)
              · go_wp2_with fail
                go_meet
                with_reducible exact f2_id H7.out KO7.out (by omega)

            · go_wp2_with fail
              go_meet
              with_reducible exact f2_one H5.out KO5.out hzs hsg hg (by omega)




    case rest =>
      obtain ⟨id, q0, q1, q2, q3, q4, rfl, hid, KQ, HN9⟩ := hcut
      rename World => v9
      subst hgr
      have hS0 : v9.drew.cell? ⟨w.heap.size, 0, none⟩ = some (.int .i64 i0) ∧ v9.drew.cell? ⟨w.heap.size, 1, none⟩ = some (.int .i64 t0) ∧ v9.drew.cell? ⟨g, 0, none⟩ = some (.int .i64 q0) ∧ v9.drew.cell? ⟨g, 1, none⟩ = some (.int .i64 q1) ∧ v9.drew.cell? ⟨g, 2, none⟩ = some (.int .i64 q2) ∧ v9.drew.cell? ⟨g, 3, none⟩ = some (.int .i64 q3) ∧ v9.drew.cell? ⟨g, 4, none⟩ = some (.int .i64 q4) := ⟨HN9.out.s.cell 0, HN9.out.s.cell 1, KQ.out.cell 0, KQ.out.cell 1, KQ.out.cell 2, KQ.out.cell 3, KQ.out.cell 4⟩
      have hrg : ¬ g = w.heap.size + 1 := by omega
      have hpg : g ≠ p := by have := HN9.out.pr; omega
      go_upto_region 22 with fail
      go_region_held_law (fun w' => w'.cell? ⟨w.heap.size, 0, none⟩ = some (.int .i64 i0) ∧ w'.cell? ⟨w.heap.size, 1, none⟩ = some (.int .i64 t0) ∧ w'.cell? ⟨g, 0, none⟩ = some (.int .i64 q0) ∧ w'.cell? ⟨g, 1, none⟩ = some (.int .i64 q1) ∧ w'.cell? ⟨g, 2, none⟩ = some (.int .i64 q2) ∧ w'.cell? ⟨g, 3, none⟩ = some (.int .i64 q3) ∧ w'.cell? ⟨g, 4, none⟩ = some (.int .i64 q4)) (first | with_reducible assumption | with_reducible exact s22_far hS1 hsr hrg) ((go_at_call 19; have hcc := below_dc p 6 v9.drew HN9.out.drew.d (by decide); (with_reducible refine hcc.mono ?_); clear hcc; rintro e v10 ⟨y, rfl, ⟨y0, y1⟩, D, W0⟩; have W : Wrote v9 v10 (some ⟨p, 0, none⟩) := (by with_reducible exact wrote_u W0); have H10 := Lib.hid (HN9.out.dice W D); have KO10 := Lib.hid (KQ.out.wrote2 W hpg); have hS1 : v10.cell? ⟨w.heap.size, 0, none⟩ = some (.int .i64 i0) ∧ v10.cell? ⟨w.heap.size, 1, none⟩ = some (.int .i64 t0) ∧ v10.cell? ⟨g, 0, none⟩ = some (.int .i64 q0) ∧ v10.cell? ⟨g, 1, none⟩ = some (.int .i64 q1) ∧ v10.cell? ⟨g, 2, none⟩ = some (.int .i64 q2) ∧ v10.cell? ⟨g, 3, none⟩ = some (.int .i64 q3) ∧ v10.cell? ⟨g, 4, none⟩ = some (.int .i64 q4) := ⟨H10.out.s.cell 0, H10.out.s.cell 1, KO10.out.cell 0, KO10.out.cell 1, KO10.out.cell 2, KO10.out.cell 3, KO10.out.cell 4⟩; have lr := H10.out.r.lt; have r_0 : v10.cell? ⟨w.heap.size + 1, 0, none⟩ = some (.int .i64 0) := H10.out.r.cell 0; have rf_0 : v10.frozen? ⟨w.heap.size + 1, 0, none⟩ = false := H10.out.r.frozen 0; have r_1 : v10.cell? ⟨w.heap.size + 1, 1, none⟩ = some (.int .i64 0) := H10.out.r.cell 1; have rf_1 : v10.frozen? ⟨w.heap.size + 1, 1, none⟩ = false := H10.out.r.frozen 1; have r_2 : v10.cell? ⟨w.heap.size + 1, 2, none⟩ = some (.int .i64 0) := H10.out.r.cell 2; have rf_2 : v10.frozen? ⟨w.heap.size + 1, 2, none⟩ = false := H10.out.r.frozen 2; have r_3 : v10.cell? ⟨w.heap.size + 1, 3, none⟩ = some (.int .i64 0) := H10.out.r.cell 3; have rf_3 : v10.frozen? ⟨w.heap.size + 1, 3, none⟩ = false := H10.out.r.frozen 3; have r_4 : v10.cell? ⟨w.heap.size + 1, 4, none⟩ = some (.int .i64 0) := H10.out.r.cell 4; have rf_4 : v10.frozen? ⟨w.heap.size + 1, 4, none⟩ = false := H10.out.r.frozen 4; have r_5 : v10.cell? ⟨w.heap.size + 1, 5, none⟩ = some (.int .i64 0) := H10.out.r.cell 5; have rf_5 : v10.frozen? ⟨w.heap.size + 1, 5, none⟩ = false := H10.out.r.frozen 5; have r_6 : v10.cell? ⟨w.heap.size + 1, 6, none⟩ = some (.int .i64 0) := H10.out.r.cell 6; have rf_6 : v10.frozen? ⟨w.heap.size + 1, 6, none⟩ = false := H10.out.r.frozen 6; have r_7 : v10.cell? ⟨w.heap.size + 1, 7, none⟩ = some (.int .i64 0) := H10.out.r.cell 7; have rf_7 : v10.frozen? ⟨w.heap.size + 1, 7, none⟩ = false := H10.out.r.frozen 7; have r_8 : v10.cell? ⟨w.heap.size + 1, 8, none⟩ = some (.int .i64 0) := H10.out.r.cell 8; have rf_8 : v10.frozen? ⟨w.heap.size + 1, 8, none⟩ = false := H10.out.r.frozen 8))
      with_reducible refine nx_end H10.out (by omega) ?_
      intro v11 KR D11 W11
      have l11 := KR.lt
      obtain ⟨r_0, r_1, r_2, r_3, r_4, r_5, r_6, r_7, r_8⟩ := bc9 KR
      clear KR
      go_wp2_with fail
      refine bodyPost_ret (v := .agg #[.int .i64 (IntKind.i64.wrap (i0 + 1)), .int .i64 (IntKind.i64.wrap (t0 + y)), .int .i64 (id), .int .i64 (1), .int .i64 (q0), .int .i64 (q1), .int .i64 (q2), .int .i64 (q3), .int .i64 (q4)]) (by simp [results, Tryz.results56, go_sem, *]) rfl ?_
      with_reducible exact nx_ret hid D11 W11
end Go.Proofs.YtokklkmibjpjnaaGreat
namespace Go.Proofs.YtokklkmibjpjnaaGreat
set_option linter.unusedSimpArgs false
set_option linter.unusedVariables false
attribute [local go_sem] n_lt2 n_lt3 n_lt4 n_le2 n_le3
open Go.RowKit

/-- What Insert leaves: the row with the new element. -/
def InsResPair (lo n i : Nat) (zs vs : List Int) (w : World) (e : Ending) (w' : World) : Prop := ∃ A' cap', e = .returned (.slice A' (n + 1) cap') ∧ Row w' lo 106 2 A' (n + 1) cap' (zs.take (i * 2) ++ vs ++ zs.drop (i * 2)) ∧ Below lo w w'
theorem zeroI_Pair (w : World) : (zeroValue 106).run Tryz.prog w = .ok (.agg #[.int .i64 0, .int .i64 0]) w := by kernel_rfl
theorem sizeI_Pair (w : World) : (Go.sizeOf 106).run Tryz.prog w = .ok 2 w := by kernel_rfl
set_option maxRecDepth 100000 in
set_option maxHeartbeats 2000000 in
theorem insertPair_end (lo : Nat) (A : Option Addr) (n cap vb : Nat) (zs vs : List Int) (w : World) (R : Row w lo 106 2 A n cap zs) (hlo : lo ≤ w.heap.size) (hn : n ≤ 1000) (hvl : vs.length = 2) (V : Blk w vb 106 (ints vs).toArray) :
    Calls Tryz.prog 115 #[.slice A n cap, .int .i64 (n : Nat), .slice (some ⟨vb, 0, none⟩) 1 1] w (InsResPair lo n n zs vs w) := by
  have hzl := R.len
  have e1 : zs.take (n * 2) ++ vs ++ zs.drop (n * 2) = zs ++ vs := by rw [List.take_of_length_le (by omega), List.drop_eq_nil_of_le (by omega), List.append_nil]
  have hnw : ∀ j u, (ints vs)[j]? = some u → w.cell? ((⟨vb, 0, none⟩ : Addr).add j) = some u := fun j u hu => by
    have ha : (⟨vb, 0, none⟩ : Addr).add j = ⟨vb, j, none⟩ := by unfold Addr.add; split <;> simp_all
    rw [ha, V.cell]
    simpa using hu
  have hcp := R.cap_le
  have hcm : cap ≤ 9223372036854775807 := by have := hcp.2; unfold maxLen at this; omega
  have hcn := hcp.1
  have H1 := Lib.hid hnw
  have H2 := Lib.hid e1
  clear hnw e1 V hcp
  go_enter Tryz.func115, Tryz.ntmps115
  go_wp2_with (at_builtin; refine wpList_append_row rfl _ _ 33 rfl 106 (.agg #[.int .i64 0, .int .i64 0]) 2 16 Tryz.underlying33 info_Pair (by first | kernel_rfl | simp [Value.cells]) (by decide) lo A n cap zs rfl R ⟨vb, 0, none⟩ 1 1 vs rfl (by omega) H1.out (by unfold maxLen; omega) (by omega) hlo ?_; intro A5 c5 w5 R5 B5)
  all_goals (go_ret; exact ⟨A5, c5, rfl, by rw [H2.out]; exact R5, B5⟩)
set_option maxRecDepth 100000 in
set_option maxHeartbeats 4000000 in
theorem insertPair_shift (lo g n cap i vb : Nat) (cs : Array Value) (zs vs : List Int) (w : World) (K : Blk w g 106 cs) (hlo : lo ≤ g) (hcs : cs.size = cap * 2) (hzl : zs.length = n * 2) (hj : ∀ j, j < n * 2 → cs[j]? = some (.int .i64 (zs.getD j 0))) (hcm : cap ≤ maxLen)
    (hi : i < n) (hroom : n + 1 ≤ cap) (hvl : vs.length = 2) (V : Blk w vb 106 (ints vs).toArray) (hvb : vb ≠ g) :
    Calls Tryz.prog 115 #[.slice (some ⟨g, 0, none⟩) n cap, .int .i64 (i : Nat), .slice (some ⟨vb, 0, none⟩) 1 1] w (InsResPair lo n i zs vs w) := by
  unfold maxLen at hcm
  have hsz : (Tryz.prog.info? 106).map (·.size) = some 2 := by kernel_rfl
  have hov : ∀ a lb cb, a = (⟨g, (i + 1) * 2, none⟩ : Addr) → (callFunc 129 #[.slice (some ⟨vb, 0, none⟩) 1 1, .slice (some a) lb cb]).run Tryz.prog w = .ok (.value (.bool false)) w := fun a lb cb ha => by
    subst ha
    rw [run_callFunc_extern Tryz.func129 (by kernel_rfl) (by kernel_rfl) (by kernel_rfl) (e := Extern.SlicesOverlaps.overlaps #[33, 33] #[4]) (by kernel_rfl),
      Lib.run_overlaps_apart w 33 4 106 Tryz.underlying33 2 sizeI_Pair ⟨vb, 0, none⟩ ⟨g, (i + 1) * 2, none⟩ 1 1 lb cb hvb _ _ _ _ V.shape K.shape (by omega) (V.frozen _) (V.frozen _)]
    rfl
  have hdl : (ints (zs.drop (i * 2))).length = (n - i) * 2 := by rw [ints_length, List.length_drop]; omega
  have hcp1 : ∀ ty dc sc, (Builtin.copy_ #[33, 33] ty #[.slice (some ⟨g, (i + 1) * 2, none⟩) (n - i) dc, .slice (some ⟨g, i * 2, none⟩) (n + 1 - i) sc]).run Tryz.prog w.drew = .ok (goInt ((n - i : Nat) : Int)) (w.drew.setCells g ((i + 1) * 2) (ints (zs.drop (i * 2)))) := fun ty dc sc =>
    run_copy_flat w.drew _ _ ty 106 2 (n - i) g ((i + 1) * 2) (n - i) dc ⟨g, i * 2, none⟩ (n + 1 - i) sc _ Tryz.underlying33 hsz (by simp only [Nat.min_def]; split <;> omega) hdl
      (fun j v hjv => by
        have ha : (⟨g, i * 2, none⟩ : Addr).add j = ⟨g, i * 2 + j, none⟩ := by unfold Addr.add; split <;> simp_all
        have hjl : j < (zs.drop (i * 2)).length := by
          have := (List.getElem?_eq_some_iff.1 hjv).1
          rwa [ints_length] at this
        rw [ints_get _ j hjl] at hjv
        rw [List.length_drop] at hjl
        rw [ha, K.drew.cell, hj _ (by omega), ← hjv, getD_drop])
      (fun j hj' => by rw [hdl] at hj'; obtain ⟨c, hc⟩ := K.drew.has (i := (i + 1) * 2 + j) (by omega); rw [hc]; rfl) (fun j _ => K.drew.frozen _) (ints_oneCell' _)
  obtain ⟨W1, hW1⟩ : ∃ W1, W1 = w.drew.setCells g ((i + 1) * 2) (ints (zs.drop (i * 2))) := ⟨_, rfl⟩
  rw [← hW1] at hcp1
  have K1 : Blk W1 g 106 (over cs ((i + 1) * 2) (ints (zs.drop (i * 2)))) := by rw [hW1]; exact Blk.over _ _ _ _ K.drew
  have V1 : Blk W1 vb 106 (ints vs).toArray := by rw [hW1]; exact (heap_setCells hvb _ _ _).trans V
  have b1 : Below lo w W1 := by rw [hW1]; exact below_setCells hlo _ _ _ (Below.drew (Below.refl _ _))
  have hs1 : (over cs ((i + 1) * 2) (ints (zs.drop (i * 2)))).size = cap * 2 := by rw [over_size, hcs]
  have hcp2 : ∀ ty dc, (Builtin.copy_ #[33, 33] ty #[.slice (some ⟨g, i * 2, none⟩) (n + 1 - i) dc, .slice (some ⟨vb, 0, none⟩) 1 1]).run Tryz.prog W1 = .ok (goInt ((1 : Nat) : Int)) (W1.setCells g (i * 2) (ints vs)) := fun ty dc =>
    run_copy_flat W1 _ _ ty 106 2 1 g (i * 2) (n + 1 - i) dc ⟨vb, 0, none⟩ 1 1 _ Tryz.underlying33 hsz (by simp only [Nat.min_def]; split <;> omega) (by rw [ints_length]; omega)
      (fun j v hjv => by
        have ha : (⟨vb, 0, none⟩ : Addr).add j = ⟨vb, j, none⟩ := by unfold Addr.add; split <;> simp_all
        rw [ha, V1.cell]
        simpa using hjv)
      (fun j hj' => by rw [ints_length] at hj'; obtain ⟨c, hc⟩ := K1.has (i := i * 2 + j) (by omega); rw [hc]; rfl) (fun j _ => K1.frozen _) (ints_oneCell' _)
  have K2 : Blk (W1.setCells g (i * 2) (ints vs)) g 106 (over (over cs ((i + 1) * 2) (ints (zs.drop (i * 2)))) (i * 2) (ints vs)) := Blk.over _ _ _ _ K1
  have b2 : Below lo w (W1.setCells g (i * 2) (ints vs)) := below_setCells hlo _ _ _ b1
  have hfin : Row (W1.setCells g (i * 2) (ints vs)) lo 106 2 (some ⟨g, 0, none⟩) (n + 1) cap (zs.take (i * 2) ++ vs ++ zs.drop (i * 2)) := by
    refine Row.of_blk K2 hlo hroom (by unfold maxLen; omega) (by rw [over_size, hs1]) (by simp; omega) (fun t ht => ?_)
    rw [ins_getD _ _ _ _ (by omega)]
    split
    · rename_i h1
      rw [over_out _ _ _ _ (.inl h1), over_out _ _ _ _ (.inl (by omega)), hj t (by omega)]
    · split
      · rename_i h1 h2
        rw [show t = i * 2 + (t - i * 2) by omega, over_in _ _ _ _ (by rw [hs1, ints_length]; omega) (by rw [ints_length]; omega), ints_get _ _ (by omega)]
        congr 3
        omega
      · rename_i h1 h2
        rw [over_out _ _ _ _ (.inr (by rw [ints_length]; omega)), show t = (i + 1) * 2 + (t - (i + 1) * 2) by omega, over_in _ _ _ _ (by rw [hdl]; omega) (by rw [hdl]; omega), ints_get _ _ (by rw [List.length_drop]; omega), getD_drop]
        congr 3
        omega
  have HF := Lib.hid (And.intro hfin b2)
  have HO := Lib.hid hov
  have hz2 : ¬ ((i : Int) = (n : Int)) := by omega
  have hb1 : (0 : Int) ≤ (i : Int) + 1 := by omega
  have hin : i ≤ n := by omega
  have htn : ((i : Int) + 1).toNat = i + 1 := by omega
  have hw1 : IntKind.i64.wrap ((i : Int) + 1) = (i : Int) + 1 := by simp [IntKind.wrap, IntKind.bits, IntKind.signed]; omega
  have hb2 : ¬ (cap = i + 1) := by omega
  have hb3 : (i : Int) ≤ (n : Int) + 1 := by omega
  have hb4 : ¬ (cap = i) := by omega
  have hov' := hov _ (n - i) (cap - (i + 1)) rfl
  clear K V K1 V1 b1 K2 b2 hfin hW1 hj hov hdl hs1
  go_enter Tryz.func115, Tryz.ntmps115
  go_wp2_with (simp only [hov'])
  go_region_law (refine step_copy_runI rfl _ _ 33 33 rfl _ _ (by simp [Act.eval, Act.put]) (by simp [Act.eval, Act.put]) (hcp1 _ _ _) ?_)
  go_wp2_with (at_builtin; refine wpList_copy_runI _ rfl _ _ 33 33 rfl _ _ rfl rfl (hcp2 _ _) ?_)
  go_ret
  exact ⟨_, _, rfl, HF.out.1, HF.out.2⟩
set_option maxRecDepth 100000 in
set_option maxHeartbeats 4000000 in
theorem insertPair_grow (lo g n i vb : Nat) (cs : Array Value) (zs vs : List Int) (w : World) (K : Blk w g 106 cs) (hlo : lo ≤ g) (hcs : cs.size = n * 2) (hzl : zs.length = n * 2) (hj : ∀ j, j < n * 2 → cs[j]? = some (.int .i64 (zs.getD j 0)))
    (hi : i < n) (hn : n ≤ 1000) (hvl : vs.length = 2) (V : Blk w vb 106 (ints vs).toArray) :
    Calls Tryz.prog 115 #[.slice (some ⟨g, 0, none⟩) n n, .int .i64 (i : Nat), .slice (some ⟨vb, 0, none⟩) 1 1] w (InsResPair lo n i zs vs w) := by
  obtain ⟨i0, hi0, hz0, hzs, hzb⟩ := info_parts info_Pair
  have hsz : (Tryz.prog.info? 106).map (·.size) = some 2 := by kernel_rfl
  have hz2 : ¬ ((i : Int) = (n : Int)) := by omega
  have hz3 : (n : Int) < (n : Int) + 1 := by omega
  have hkk : (n : Int) + 1 - (i : Int) = ((n + 1 - i : Nat) : Int) := by omega
  have hik : i + (n + 1 - i) = n + 1 := by omega
  have hgl := K.lt
  have hvw := V.lt
  have hold : (Builtin.firstCells i0.size i (.slice (some ⟨g, 0, none⟩) i n)).run Tryz.prog w.drew = .ok (ints (zs.take (i * 2))).toArray w.drew := by
    rw [hzs]
    refine run_firstCells_some w.drew 2 i ⟨g, 0, none⟩ i n _ (by rw [ints_length, List.length_take]; omega) (fun j v hjv => ?_)
    have ha : (⟨g, 0, none⟩ : Addr).add j = ⟨g, j, none⟩ := by unfold Addr.add; split <;> simp_all
    have hjl : j < (zs.take (i * 2)).length := by
      have := (List.getElem?_eq_some_iff.1 hjv).1
      rwa [ints_length] at this
    rw [ints_get _ j hjl] at hjv
    rw [List.length_take] at hjl
    rw [ha, K.drew.cell, hj _ (by omega), ← hjv, getD_take _ _ _ (by omega)]
  obtain ⟨G, hG⟩ : ∃ G, G = grownCap w (n + 1) n 106 := ⟨_, rfl⟩
  obtain ⟨ROW, hROW⟩ : ∃ ROW : Array Value, ROW = (ints (zs.take (i * 2))).toArray ++ Builtin.zeroCells ((.agg #[.int .i64 0, .int .i64 0]) : Value).cells (n + 1 - i) ++ Builtin.zeroCells ((.agg #[.int .i64 0, .int .i64 0]) : Value).cells (G - (n + 1)) := ⟨_, rfl⟩
  have hrz : ∀ ty, (Builtin.append_ #[33, 3] ty #[.slice (some ⟨g, 0, none⟩) i n, .int .i64 ((n : Int) + 1 - (i : Int))]).run Tryz.prog w =
      .ok (.slice (some ⟨w.heap.size, 0, none⟩) (n + 1) G) (w.drew.alloc (.cells ROW 106)) := fun ty => by
    have h := Lib.run_append_grow_zeros w 33 3 ty 106 i0 _ .i64 .i64 Tryz.underlying33 Tryz.underlying3 hi0 hz0 (some ⟨g, 0, none⟩) i n _ hold (n + 1 - i) (by omega) (by omega) (by omega) (by omega) (by rw [hzb]; omega) (by rw [hzb, hik]; exact growslice_fits (by omega) (by omega))
    rw [hik, ← hG] at h
    rw [hkk, hROW]
    exact h
  have hGn : n + 1 ≤ G := by rw [hG]; exact grownCap_ge w _ _ _
  have hGm : G ≤ maxLen := by
    rw [hG]
    exact grownCap_le_maxLen w (n + 1) n 106 (by unfold maxLen; omega)
  have hzc : ∀ k, (Builtin.zeroCells ((.agg #[.int .i64 0, .int .i64 0]) : Value).cells k).toList = zeros (k * 2) := fun k => zeroCells_flat (z := (.agg #[.int .i64 0, .int .i64 0])) (s := 2) rfl k
  have hzsz : ∀ k, (Builtin.zeroCells ((.agg #[.int .i64 0, .int .i64 0]) : Value).cells k).size = k * 2 := fun k => by rw [← Array.length_toList, hzc, zeros_length]
  have hRs : ROW.size = G * 2 := by
    rw [hROW, Array.size_append, Array.size_append, hzsz, hzsz]
    simp only [List.size_toArray, ints_length, List.length_take]
    omega
  have hRj : ∀ t, t < i * 2 → ROW[t]? = some (.int .i64 (zs.getD t 0)) := fun t ht => by
    rw [hROW, Array.getElem?_append_left (by rw [Array.size_append, hzsz]; simp only [List.size_toArray, ints_length, List.length_take]; omega), Array.getElem?_append_left (by simp only [List.size_toArray, ints_length, List.length_take]; omega), List.getElem?_toArray, ints_get _ _ (by rw [List.length_take]; omega), getD_take _ _ _ ht]
  have hlw : lo ≤ w.heap.size := by omega
  -- the three worlds
  obtain ⟨W1, hW1⟩ : ∃ W1, W1 = w.drew.alloc (.cells ROW 106) := ⟨_, rfl⟩
  rw [← hW1] at hrz
  have N1 : Blk W1 w.heap.size 106 ROW := by rw [hW1]; exact Blk.new w.drew _ _
  have K1 : Blk W1 g 106 cs := by rw [hW1]; exact K.drew.alloc _
  have V1 : Blk W1 vb 106 (ints vs).toArray := by rw [hW1]; exact V.drew.alloc _
  have b1 : Below lo w W1 := by rw [hW1]; exact Below.alloc (Below.drew (Below.refl _ _)) hlw _
  have hcpA : ∀ ty dc, (Builtin.copy_ #[33, 33] ty #[.slice (some ⟨w.heap.size, i * 2, none⟩) (n + 1 - i) dc, .slice (some ⟨vb, 0, none⟩) 1 1]).run Tryz.prog W1 = .ok (goInt ((1 : Nat) : Int)) (W1.setCells w.heap.size (i * 2) (ints vs)) := fun ty dc =>
    run_copy_flat W1 _ _ ty 106 2 1 w.heap.size (i * 2) (n + 1 - i) dc ⟨vb, 0, none⟩ 1 1 _ Tryz.underlying33 hsz (by simp only [Nat.min_def]; split <;> omega) (by rw [ints_length]; omega)
      (fun j v hjv => by
        have ha : (⟨vb, 0, none⟩ : Addr).add j = ⟨vb, j, none⟩ := by unfold Addr.add; split <;> simp_all
        rw [ha, V1.cell]
        simpa using hjv)
      (fun j hj' => by rw [ints_length] at hj'; obtain ⟨c, hc⟩ := N1.has (i := i * 2 + j) (by omega); rw [hc]; rfl) (fun j _ => N1.frozen _) (ints_oneCell' _)
  obtain ⟨W2, hW2⟩ : ∃ W2, W2 = W1.setCells w.heap.size (i * 2) (ints vs) := ⟨_, rfl⟩
  rw [← hW2] at hcpA
  have N2 : Blk W2 w.heap.size 106 (over ROW (i * 2) (ints vs)) := by rw [hW2]; exact Blk.over _ _ _ _ N1
  have K2 : Blk W2 g 106 cs := by rw [hW2]; exact (heap_setCells (by omega) _ _ _).trans K1
  have b2 : Below lo w W2 := by rw [hW2]; exact below_setCells hlw _ _ _ b1
  have hs2 : (over ROW (i * 2) (ints vs)).size = G * 2 := by rw [over_size, hRs]
  have hdl : (ints (zs.drop (i * 2))).length = (n - i) * 2 := by rw [ints_length, List.length_drop]; omega
  have hcpB : ∀ ty dc sc, (Builtin.copy_ #[33, 33] ty #[.slice (some ⟨w.heap.size, (i + 1) * 2, none⟩) (n - i) dc, .slice (some ⟨g, i * 2, none⟩) (n - i) sc]).run Tryz.prog W2.drew = .ok (goInt ((n - i : Nat) : Int)) (W2.drew.setCells w.heap.size ((i + 1) * 2) (ints (zs.drop (i * 2)))) := fun ty dc sc =>
    run_copy_flat W2.drew _ _ ty 106 2 (n - i) w.heap.size ((i + 1) * 2) (n - i) dc ⟨g, i * 2, none⟩ (n - i) sc _ Tryz.underlying33 hsz (by simp only [Nat.min_def]; split <;> omega) hdl
      (fun j v hjv => by
        have ha : (⟨g, i * 2, none⟩ : Addr).add j = ⟨g, i * 2 + j, none⟩ := by unfold Addr.add; split <;> simp_all
        have hjl : j < (zs.drop (i * 2)).length := by
          have := (List.getElem?_eq_some_iff.1 hjv).1
          rwa [ints_length] at this
        rw [ints_get _ j hjl] at hjv
        rw [List.length_drop] at hjl
        rw [ha, K2.drew.cell, hj _ (by omega), ← hjv, getD_drop])
      (fun j hj' => by rw [hdl] at hj'; obtain ⟨c, hc⟩ := N2.drew.has (i := (i + 1) * 2 + j) (by omega); rw [hc]; rfl) (fun j _ => N2.drew.frozen _) (ints_oneCell' _)
  obtain ⟨W3, hW3⟩ : ∃ W3, W3 = W2.drew.setCells w.heap.size ((i + 1) * 2) (ints (zs.drop (i * 2))) := ⟨_, rfl⟩
  rw [← hW3] at hcpB
  have N3 : Blk W3 w.heap.size 106 (over (over ROW (i * 2) (ints vs)) ((i + 1) * 2) (ints (zs.drop (i * 2)))) := by rw [hW3]; exact Blk.over _ _ _ _ N2.drew
  have b3 : Below lo w W3 := by rw [hW3]; exact below_setCells hlw _ _ _ (Below.drew b2)
  have hfin : Row W3 lo 106 2 (some ⟨w.heap.size, 0, none⟩) (n + 1) G (zs.take (i * 2) ++ vs ++ zs.drop (i * 2)) := by
    refine Row.of_blk N3 hlw hGn hGm (by rw [over_size, hs2]) (by simp; omega) (fun t ht => ?_)
    have hil : i * 2 ≤ n * 2 := Nat.mul_le_mul_right _ (by omega)
    have hGs : (n + 1) * 2 ≤ G * 2 := Nat.mul_le_mul_right _ hGn
    rw [ins_getD _ _ _ _ (by omega)]
    split
    · rename_i h1
      rw [over_out _ _ _ _ (.inl (by omega)), over_out _ _ _ _ (.inl h1), hRj t h1]
    · split
      · rename_i h1 h2
        rw [over_out _ _ _ _ (.inl (by omega)), show t = i * 2 + (t - i * 2) by omega, over_in _ _ _ _ (by rw [hRs, ints_length]; omega) (by rw [ints_length]; omega), ints_get _ _ (by omega)]
        congr 3
        omega
      · rename_i h1 h2
        rw [show t = (i + 1) * 2 + (t - (i + 1) * 2) by omega, over_in _ _ _ _ (by rw [hs2, hdl]; omega) (by rw [hdl]; omega), ints_get _ _ (by rw [List.length_drop]; omega), getD_drop]
        congr 3
        omega
  have HF := Lib.hid (And.intro hfin b3)
  unfold maxLen at hGm
  have hGi : ¬ (G = i) := by omega
  have hGim : ¬ (G = i + 1) := by omega
  have hci : ¬ (n = i) := by omega
  have hw1 : IntKind.i64.wrap ((i : Int) + 1) = (i : Int) + 1 := by simp [IntKind.wrap, IntKind.bits, IntKind.signed]; omega
  have hb1 : (0 : Int) ≤ (i : Int) + 1 := by omega
  have hin : i ≤ n := by omega
  have htn : ((i : Int) + 1).toNat = i + 1 := by omega
  have hb3 : (i : Int) ≤ (n : Int) := by omega
  clear K V N1 K1 V1 b1 N2 K2 b2 N3 b3 hfin hW1 hW2 hW3 hj hdl hs2 hRj hRs hzsz hzc hROW hG hold hkk hik
  go_enter Tryz.func115, Tryz.ntmps115
  go_wp2_with (first
    | (at_builtin; refine Lib.wpList_append_run _ rfl _ _ _ _ rfl _ _ rfl rfl _ _ (hrz _) ?_)
    | (at_builtin; refine wpList_copy_runI _ rfl _ _ 33 33 rfl _ _ rfl rfl (hcpA _ _) ?_))
  go_region_law (refine step_copy_runI rfl _ _ 33 33 rfl _ _ (by simp [Act.eval, Act.put]) (by simp [Act.eval, Act.put]) (hcpB _ _ _) ?_)
  go_wp2
  go_ret
  exact ⟨_, _, rfl, HF.out.1, HF.out.2⟩
/-- All three roads. -/
theorem insertPair_any (lo : Nat) (A : Option Addr) (n cap i vb : Nat) (zs vs : List Int) (w : World) (R : Row w lo 106 2 A n cap zs) (hlo : lo ≤ w.heap.size) (hn : n ≤ 1000) (hi : i ≤ n) (hvl : vs.length = 2) (V : Blk w vb 106 (ints vs).toArray) (hvb : ∀ a, A = some a → a.block ≠ vb) :
    Calls Tryz.prog 115 #[.slice A n cap, .int .i64 (i : Nat), .slice (some ⟨vb, 0, none⟩) 1 1] w (InsResPair lo n i zs vs w) := by
  by_cases hin : i = n
  · subst hin
    exact insertPair_end lo A i cap vb zs vs w R hlo hn hvl V
  · obtain ⟨g, cs, rfl, hlg, K, hnc, hcm, hcs, hj⟩ := R.blk (by omega)
    by_cases hroom : n + 1 ≤ cap
    · exact insertPair_shift lo g n cap i vb cs zs vs w K hlg hcs R.len hj hcm (by omega) hroom hvl V (Ne.symm (hvb _ rfl))
    · obtain rfl : cap = n := by omega
      exact insertPair_grow lo g cap i vb cs zs vs w K hlg hcs R.len hj (by omega) hn hvl V
end Go.Proofs.YtokklkmibjpjnaaGreat
namespace Go.Proofs.YtokklkmibjpjnaaGreat
set_option linter.unusedSimpArgs false
set_option linter.unusedVariables false
attribute [local go_sem] n_lt2 n_lt3 n_lt4 n_le2 n_le3
open Go.RowKit
attribute [local go_sem] Ext.cell Ext.frozen

def RetPut (w : World) (l : List Pr) (key v : Int) (e : Ending) (w' : World) : Prop := RetRowB w 106 2 (putR l key v).1.length (PR (putR l key v).1) (putR l key v).2 e w'
theorem retPut {w w' : World} {l l' : List Pr} {key v : Int} {A : Option Addr} {n cap : Nat} {b : Bool} (h : putR l key v = (l', b)) (hn : n = l'.length) (R : Row w' w.heap.size 106 2 A n cap (PR l')) (hb : Below w.heap.size w w') :
    RetPut w l key v (.returned (.tuple #[.slice A n cap, .bool b])) w' := by
  unfold RetPut
  rw [h]
  subst hn
  exact ⟨A, cap, rfl, R, hb⟩
set_option maxRecDepth 100000 in
set_option maxHeartbeats 800000 in
theorem l14Copy_any (A : Option Addr) (n cap : Nat) (l : List Pr) (w : World) (hS : Sl w 2 A n (PR l)) (hl : l.length = n) (hn : n ≤ 1000) (hA : A = none → n = 0 ∧ cap = 0) :
    Calls Tryz.prog 65 #[.slice A n cap] w (RetRow w 106 2 n (PR l)) := by
  have R0 : Row (w.alloc (.cells #[] 106)) w.heap.size 106 2 (some ⟨w.heap.size, 0, none⟩) 0 0 [] := row0p (Blk.new w _ _) (Nat.le_refl _)
  have hnw := fun ad (h : A = some ad) => sl_news (hS.below ((Below.refl w.heap.size w).alloc (Nat.le_refl _) (.cells #[] 106))) h
  have hPl : (PR l).length = n * 2 := by rw [PR_len, hl]
  cases A with
  | none =>
    obtain ⟨rfl, rfl⟩ := hA rfl
    have hz : PR l = [] := List.eq_nil_of_length_eq_zero (by omega)
    rw [hz]
    obtain ⟨i0, hi0, hz0, hs0, hy0⟩ := info_parts info_Pair
    clear hnw hS hA hPl
    go_enter Tryz.func65, Tryz.ntmps65
    go_wp2_with (at_builtin; refine wpList_append_own_none rfl _ _ 33 rfl w.heap.size 106 i0 2 Tryz.underlying33 hi0 (.slice (some ⟨w.heap.size, 0, none⟩) 0 0) 0 [] rfl R0 rfl ?_)
    go_ret
    exact RetRow.mk R0 (by (repeat' (first | (with_reducible exact Below.refl _ _) | (with_reducible assumption) | (with_reducible refine Below.alloc ?_ ?_ _) | (with_reducible refine Below.drew ?_) | (with_reducible refine Below.setCell ?_ ?_ _) | (with_reducible refine bstep (by assumption) ?_ ?_) | (with_reducible exact Nat.le_refl _) | omega | (simp [*]; done) | (simp [*]; omega))))
  | some ad =>
    have hnw' := Lib.hid (hnw ad rfl)
    clear hnw hS hA
    go_enter Tryz.func65, Tryz.ntmps65
    go_wp2_with (at_builtin; refine wpList_append_row rfl _ _ 33 rfl 106 (.agg #[.int .i64 0, .int .i64 0]) 2 16 Tryz.underlying33 info_Pair (by first | kernel_rfl | simp [Value.cells]) (by decide) w.heap.size (some ⟨w.heap.size, 0, none⟩) 0 0 [] rfl R0 ad n cap (PR l) rfl hPl hnw'.out (by unfold maxLen; omega) (by omega) (by simp) ?_; intro A5 c5 w5 R5 B5)
    go_ret
    simp only [Nat.zero_add, List.nil_append] at R5 ⊢
    exact RetRow.mk R5 (((Below.refl w.heap.size w).alloc (Nat.le_refl _) _).trans B5)
set_option maxRecDepth 100000 in
set_option maxHeartbeats 2000000 in
theorem specPut_any (A : Option Addr) (n cap : Nat) (l : List Pr) (key v : Int) (w : World) (hS : Sl w 2 A n (PR l)) (hl : l.length = n) (hn : n ≤ maxLen) (hA : A = none → n = 0 ∧ cap = 0) :
    Calls Tryz.prog 29 #[.slice A n cap, .int .i64 key, .int .i64 v] w (RetPut w l key v) := by
  have c1 := specPairsOk_any A n cap l w hS hl hn
  by_cases hpa : pairsB l = true
  · have h10 : n ≤ 10 := by have := pairsB_len hpa; omega
    rw [hpa] at c1
    have HPA := Lib.hid hpa
    have HL := Lib.hid hl
    have HS := Lib.hid hS
    by_cases hr : rightB key v = true
    · have hkr : 0 ≤ key ∧ key ≤ 9 := by
        unfold rightB at hr
        simp only [Bool.and_eq_true, inB_iff] at hr
        exact hr.1
      have HR := Lib.hid (show putR l key v = (putL l key v, true) by unfold putR; rw [if_pos hpa, if_pos hr])
      have HT := Lib.hid (putTo_all (v := v) hpa hkr)
      obtain ⟨hk0, hk9⟩ := hkr
      clear hpa hl hS
      go_enter Tryz.func29, Tryz.ntmps29
      go_wp2_with fail
      refine c1.mono ?_
      rintro e w1 ⟨rfl, b1⟩
      go_wp2_with fail
      refine (l14Right_any key v w1).mono ?_
      rintro e w2 ⟨rfl, b2⟩
      rw [hr]
      have hbl2 := bthen b1 b2
      clear b1 b2
      go_wp2
      go_loopw [8, 9] (fun o i wr => ∃ k A0 n0 c0 zs, k ≤ 10 ∧ n0 ≤ k ∧ i = .int .i64 (k : Nat) ∧ o = .slice A0 n0 c0 ∧ Row wr w.heap.size 106 2 A0 n0 c0 zs ∧ Hid (zs = PR (putTo l key v k)) ∧ Below w.heap.size w wr) (fun _ i _ => 10 - (intOf i).toNat)
      case atStart => exact ⟨0, _, _, _, _, by omega, Nat.le_refl _, rfl, rfl, row0p (Blk.new w2 _ _) hbl2.size, Lib.hid rfl, hbl2.alloc hbl2.size _⟩
      case round =>
        obtain ⟨k, A0, n0, c0, zs, hk, hn0, rfl, rfl, R, hz, hbl⟩ := hrel
        by_cases hlt : k < 10
        · have hlt' : (k : Int) ≤ 9 := by omega
          have c2 := specValueAt_any A n cap l (k : Int) wr (HS.out.below hbl) HL.out hn
          have hv : valueAtB l (k : Int) = valAt l k := by unfold valueAtB; rw [if_pos HPA.out]
          rw [hv] at c2
          clear hv
          generalize hva : valAt l (k : Int) = va at c2
          obtain ⟨x, y⟩ := va
          have HVA := Lib.hid hva
          clear hva
          go_wp2_with fail
          refine c2.mono ?_
          rintro e w3 ⟨rfl, b3⟩
          have R3 := R.below b3
          have hbl3 := bstep b3 hbl hbl.size
          have hs3 := hbl3.size
          clear b3 R hbl hbl2 c2
          by_cases hkk : (k : Int) = key
          · have HE := Lib.hid (show PR (putTo l key v (k + 1)) = PR (putTo l key v k) ++ [(k : Int), v] by rw [putTo_succ, PR_append]; congr 1; unfold putG; rw [if_pos hkk]; rfl)
            have hkk' : ((k : Int) == key) = true := by simpa using hkk
            clear hkk
            go_wp2_with (at_builtin; refine wpList_append_row rfl _ _ 33 rfl 106 (.agg #[.int .i64 0, .int .i64 0]) 2 16 Tryz.underlying33 info_Pair (by first | kernel_rfl | simp [Value.cells]) (by decide) w.heap.size A0 n0 c0 zs rfl (World.ownsRow.alloc R3 _) ⟨w3.heap.size, 0, none⟩ 1 1 [(k : Int), v] rfl rfl (cell_two_new _ _ _ _) (by unfold maxLen; omega) (by omega) (by simp; omega) ?_; intro A5 c5 w5 R5 B5)
            exact ⟨⟨k + 1, A5, _, c5, _, by omega, by omega, by go_num, rfl, R5, Lib.hid (by rw [HE.out, hz.out]), (hbl3.alloc hs3 _).trans B5⟩, by simp [intOf]; omega⟩
          · have hkk' : ((k : Int) == key) = false := by simpa using hkk
            cases y
            · have HE := Lib.hid (show PR (putTo l key v (k + 1)) = PR (putTo l key v k) by rw [putTo_succ, PR_append]; unfold putG; rw [if_neg hkk, HVA.out]; simp [PR])
              clear hkk
              go_wp2
              exact ⟨⟨k + 1, A0, n0, c0, zs, by omega, by omega, by go_num, rfl, R3, Lib.hid (by rw [HE.out, hz.out]), hbl3⟩, by simp [intOf]; omega⟩
            · have HE := Lib.hid (show PR (putTo l key v (k + 1)) = PR (putTo l key v k) ++ [(k : Int), x] by rw [putTo_succ, PR_append]; unfold putG; rw [if_neg hkk, HVA.out]; simp [PR])
              clear hkk
              go_wp2_with (at_builtin; refine wpList_append_row rfl _ _ 33 rfl 106 (.agg #[.int .i64 0, .int .i64 0]) 2 16 Tryz.underlying33 info_Pair (by first | kernel_rfl | simp [Value.cells]) (by decide) w.heap.size A0 n0 c0 zs rfl (World.ownsRow.alloc R3 _) ⟨w3.heap.size, 0, none⟩ 1 1 [(k : Int), x] rfl rfl (cell_two_new _ _ _ _) (by unfold maxLen; omega) (by omega) (by simp; omega) ?_; intro A5 c5 w5 R5 B5)
              exact ⟨⟨k + 1, A5, _, c5, _, by omega, by omega, by go_num, rfl, R5, Lib.hid (by rw [HE.out, hz.out]), (hbl3.alloc hs3 _).trans B5⟩, by simp [intOf]; omega⟩
        · have hkn : k = 10 := by omega
          subst hkn
          go_wp2
          refine bodyPost_ret (v := .tuple #[.slice A0 n0 c0, .bool true]) (by simp [results, Tryz.results29, go_sem, *]) rfl ?_
          have hzz := hz.out
          rw [HT.out] at hzz
          subst hzz
          refine retPut HR.out ?_ R hbl
          have := R.len
          rw [PR_len] at this
          omega
    · have hr' : rightB key v = false := by simpa using hr
      have HR := Lib.hid (show putR l key v = (l, false) by unfold putR; rw [if_pos hpa, if_neg hr])
      clear hpa hl hS hr
      go_enter Tryz.func29, Tryz.ntmps29
      go_wp2_with fail
      refine c1.mono ?_
      rintro e w1 ⟨rfl, b1⟩
      go_wp2_with fail
      refine (l14Right_any key v w1).mono ?_
      rintro e w2 ⟨rfl, b2⟩
      rw [hr']
      have hbl2 := bthen b1 b2
      go_wp2_with fail
      refine (l14Copy_any A n cap l w2 (HS.out.below hbl2) HL.out (by omega) hA).mono ?_
      rintro e w3 ⟨A3, c3, rfl, R3, b3⟩
      go_wp2
      refine bodyPost_ret (v := .tuple #[.slice A3 n c3, .bool false]) (by simp [results, Tryz.results29, go_sem, *]) rfl ?_
      exact retPut HR.out HL.out.symm (R3.mono hbl2.size) (bthen hbl2 b3)
  · have hpa' : pairsB l = false := by simpa using hpa
    have HR := Lib.hid (show putR l key v = ([], false) by unfold putR; rw [if_neg hpa])
    rw [hpa'] at c1
    go_enter Tryz.func29, Tryz.ntmps29
    go_wp2_with fail
    refine c1.mono ?_
    rintro e w1 ⟨rfl, b1⟩
    go_wp2
    refine bodyPost_ret (v := .tuple #[.slice (some ⟨w1.heap.size, 0, none⟩) 0 0, .bool false]) (by simp [results, Tryz.results29, go_sem, *]) rfl ?_
    exact retPut HR.out rfl (row0p (Blk.new w1 _ _) b1.size) (b1.alloc b1.size _)
end Go.Proofs.YtokklkmibjpjnaaGreat
namespace Go.Proofs.YtokklkmibjpjnaaGreat
set_option linter.unusedSimpArgs false
set_option linter.unusedVariables false
attribute [local go_sem] n_lt2 n_lt3 n_lt4 n_le2 n_le3
open Go.RowKit
/-- The place of the first pair with this key, or the list's length. -/
def firIx (l : List Jb) (key : Int) : Nat := l.findIdx (fun p => decide (p.f = key))
def placeF (l : List Jb) (key : Int) : Int := if firIx l key < l.length then (firIx l key : Int) else -1
theorem firIx_some {l : List Jb} {key : Int} {k : Nat} (hk : k < l.length) (hj : ∀ j, j < k → (l.getD j default).f ≠ key) (h : (l.getD k default).f = key) : firIx l key = k := by
  unfold firIx
  rw [List.findIdx_eq hk]
  refine ⟨?_, fun j hjk => ?_⟩
  · have : l.getD k default = l[k] := by simp [List.getD, hk]
    rw [this] at h
    simpa using h
  · have hj' := hj j hjk
    have : l.getD j default = l[j] := by simp [List.getD, Nat.lt_trans hjk hk]
    rw [this] at hj'
    simpa using hj'
theorem firIx_none {l : List Jb} {key : Int} (hj : ∀ j, j < l.length → (l.getD j default).f ≠ key) : firIx l key = l.length := by
  unfold firIx
  rw [List.findIdx_eq_length]
  intro x hx
  obtain ⟨i, hi, rfl⟩ := List.getElem_of_mem hx
  have hj' := hj i hi
  have : l.getD i default = l[i] := by simp [List.getD, hi]
  rw [this] at hj'
  simpa using hj'
theorem placeF_some {l : List Jb} {key : Int} {k : Nat} (hk : k < l.length) (hj : ∀ j, j < k → (l.getD j default).f ≠ key) (h : (l.getD k default).f = key) : placeF l key = k := by
  unfold placeF
  rw [firIx_some hk hj h, if_pos hk]
theorem placeF_none {l : List Jb} {key : Int} (hj : ∀ j, j < l.length → (l.getD j default).f ≠ key) : placeF l key = -1 := by
  unfold placeF
  rw [firIx_none hj, if_neg (Nat.lt_irrefl _)]
theorem below_uptoF {l : List Jb} {key : Int} {k : Nat} (h : ∀ j, j < k → (l.getD j default).f ≠ key) (hk : (l.getD k default).f ≠ key) : ∀ j, j < k + 1 → (l.getD j default).f ≠ key := fun j hj => by
  rcases Nat.lt_or_ge j k with h1 | h1
  · exact h j h1
  · obtain rfl : j = k := by omega
    exact hk
attribute [local go_sem] Ext.cell Ext.frozen

theorem jobFir_any (a b c d e : Int) (w : World) :
    Calls Tryz.prog 124 #[.agg #[.int .i64 a, .int .i64 b, .int .i64 c, .int .i64 d, .int .i64 e]] w fun e' w' => e' = .returned (.int .i64 e) ∧ Below w.heap.size w w' := by
  go_enter Tryz.func124, Tryz.ntmps124
  go_wp2
  go_ret
  exact ⟨rfl, by (repeat' (first | (with_reducible exact Below.refl _ _) | (with_reducible assumption) | (with_reducible refine Below.alloc ?_ ?_ _) | (with_reducible refine Below.drew ?_) | (with_reducible refine Below.setCell ?_ ?_ _) | (with_reducible refine bstep (by assumption) ?_ ?_) | (with_reducible exact Nat.le_refl _) | omega | (simp [*]; done) | (simp [*]; omega)))⟩
set_option maxHeartbeats 400000 in
theorem isFir_any (x0 x1 x2 x3 x4 key : Int) (p q : Nat) (w : World) (hp : w.cell? ⟨p, 0, none⟩ = some (.func (.func 124) #[] #[])) (hq : w.cell? ⟨q, 0, none⟩ = some (.int .i64 key)) (hpl : p < w.heap.size) (hql : q < w.heap.size) :
    Calls Tryz.prog 136 #[.agg #[.int .i64 x0, .int .i64 x1, .int .i64 x2, .int .i64 x3, .int .i64 x4], .pointer (some ⟨p, 0, none⟩), .pointer (some ⟨q, 0, none⟩)] w fun e' w' => e' = .returned (.bool (decide (x4 = key))) ∧ Below w.heap.size w w' := by
  go_enter Tryz.func136, Tryz.ntmps136
  go_wp2
  ((refine wp_region_ext (by kernel_rfl) (by kernel_rfl) ?_); (repeat (any_goals (first | go_big_quiet_step ((go_at_call 124; exact quiet_ext (jobFir_any _ _ _ _ _ _))) | (refine wpQuiet_step (fun K hK => ?_); go_simp; split <;> (refine hK _ ?_; clear hK K)) | quiet_step ((go_at_call 124; exact quiet_ext (jobFir_any _ _ _ _ _ _)))))); (all_goals (refine wpQuiet_nil ?_; rintro _ ⟨z, rfl⟩; have hb' := z.h; generalize z.w = w1 at hb' ⊢; clear z; (first | (have hb2 := bstep hb' hb hb.size; clear hb' hcb hfb hz1 hz2 hz3 hz4 hb; have hb := hb2; clear hb2) | (have hb := hb'; clear hb')); obtain ⟨hcb, hfb, hz1, hz2, hz3, hz4⟩ := bcell hb; (try simp only [World.size_alloc, World.size_setCell, World.size_drew, Nat.lt_add_one_iff, Nat.add_assoc, Nat.reduceAdd] at hz1 hz2 hz3 hz4))))
  all_goals go_wp2
  all_goals go_ret
  all_goals exact ⟨ret_bool (by (first | rfl | (simp [*]; done) | (subst_vars; simp [*]; done) | (simp_all; done))), by (repeat' (first | (with_reducible exact Below.refl _ _) | (with_reducible assumption) | (with_reducible refine Below.alloc ?_ ?_ _) | (with_reducible refine Below.drew ?_) | (with_reducible refine Below.setCell ?_ ?_ _) | (with_reducible refine bstep (by assumption) ?_ ?_) | (with_reducible exact Nat.le_refl _) | omega | (simp [*]; done) | (simp [*]; omega)))⟩
set_option maxHeartbeats 800000 in
theorem indexFir_any (A : Option Addr) (n cap : Nat) (l : List Jb) (key : Int) (p q : Nat) (w : World) (hS : Sl w 5 A n (JB l)) (hl : l.length = n) (hn : n ≤ maxLen)
    (hp : w.cell? ⟨p, 0, none⟩ = some (.func (.func 124) #[] #[])) (hq : w.cell? ⟨q, 0, none⟩ = some (.int .i64 key)) (hpl : p < w.heap.size) (hql : q < w.heap.size) :
    Calls Tryz.prog 135 #[.slice A n cap, .func (.func 136) #[] #[.pointer (some ⟨p, 0, none⟩), .pointer (some ⟨q, 0, none⟩)]] w fun e' w' => e' = .returned (.int .i64 (placeF l key)) ∧ Below w.heap.size w w' := by
  unfold maxLen at hn
  have hL := Lib.hid hl
  have HS := Lib.hid hS
  have HP := Lib.hid hp
  have HQ := Lib.hid hq
  clear hl hS hp hq
  go_enter Tryz.func135, Tryz.ntmps135
  go_wp2
  go_loopw [8] (fun i wr => ∃ k : Nat, k ≤ n ∧ i = .int .i64 k ∧ Below w.heap.size w wr ∧ Hid (∀ j, j < k → (l.getD j default).f ≠ key)) (fun i _ => n - (intOf i).toNat)
  case atStart => exact ⟨0, Nat.zero_le _, rfl, Below.refl _ _, fun j hj => absurd hj (by omega)⟩
  case round =>
    obtain ⟨k, hk, rfl, hbl, hall⟩ := hrel
    by_cases hlt : k < n
    · obtain ⟨b, off, rfl, hb, hcell⟩ := sl_jobs HS.out (by omega)
      obtain ⟨h0, h1, h2, h3, h4⟩ := hcell k hlt
      clear hcell
      rw [← hbl.cell (by exact hb)] at h0 h1 h2 h3 h4
      generalize hpk : l.getD k default = pk at h0 h1 h2 h3 h4
      obtain ⟨x, x1, x2, x3, x4⟩ := pk
      simp only at h0 h1 h2 h3 h4
      have H := Lib.hid hpk
      clear hpk
      have hbr : b < wr.heap.size := Nat.lt_of_lt_of_le hb hbl.size
      have c1 := isFir_any x x1 x2 x3 x4 key p q wr ((hbl.cell (p := ⟨p, 0, none⟩) hpl).trans HP.out) ((hbl.cell (p := ⟨q, 0, none⟩) hql).trans HQ.out) (Nat.lt_of_lt_of_le hpl hbl.size) (Nat.lt_of_lt_of_le hql hbl.size)
      by_cases hx : x4 = key
      · simp only [hx, decide_true] at c1
        subst hx
        go_wp2_with fail
        refine c1.mono ?_
        rintro e w1 ⟨rfl, b1⟩
        go_wp2
        go_ret
        exact ⟨ret_int (placeF_some (hL.out.symm ▸ hlt) hall.out (by rw [H.out])).symm, bstep b1 hbl hbl.size⟩
      · simp only [hx, decide_false] at c1
        go_wp2_with fail
        refine c1.mono ?_
        rintro e w1 ⟨rfl, b1⟩
        go_wp2
        exact ⟨⟨k + 1, by omega, by go_num, bstep b1 hbl hbl.size, below_uptoF hall.out (by rw [H.out]; exact hx)⟩, by simp [intOf]; omega⟩
    · have hkn : k = n := by omega
      subst hkn
      go_wp2
      go_ret
      exact ⟨ret_int (placeF_none (hL.out.symm ▸ hall.out)).symm, hbl⟩
set_option maxHeartbeats 400000 in
theorem placeFir_any (A : Option Addr) (n cap : Nat) (l : List Jb) (key : Int) (w : World) (hS : Sl w 5 A n (JB l)) (hl : l.length = n) (hn : n ≤ maxLen) :
    Calls Tryz.prog 122 #[.slice A n cap, .int .i64 key, .func (.func 124) #[] #[]] w fun e' w' => e' = .returned (.int .i64 (placeF l key)) ∧ Below w.heap.size w w' := by
  generalize hv : placeF l key = v
  go_enter Tryz.func122, Tryz.ntmps122
  go_wp2_with fail
  refine calls_named ?_
  rintro w1 hw1
  have b1 : Below w.heap.size w w1 := by rw [hw1]; (repeat' (first | (with_reducible exact Below.refl _ _) | (with_reducible assumption) | (with_reducible refine Below.alloc ?_ ?_ _) | (with_reducible refine Below.drew ?_) | (with_reducible refine Below.setCell ?_ ?_ _) | (with_reducible refine bstep (by assumption) ?_ ?_) | (with_reducible exact Nat.le_refl _) | omega | (simp [*]; done) | (simp [*]; omega)))
  have hq : w1.cell? ⟨w.heap.size, 0, none⟩ = some (.int .i64 key) := by rw [hw1]; simp [go_sem]
  have hp : w1.cell? ⟨w.heap.size + 1, 0, none⟩ = some (.func (.func 124) #[] #[]) := by rw [hw1]; simp [go_sem]
  have hs : w1.heap.size = w.heap.size + 2 := by rw [hw1]; simp
  clear hw1
  have c1 := indexFir_any A n cap l key (w.heap.size + 1) w.heap.size w1 (hS.below b1) hl hn hp hq (by omega) (by omega)
  rw [hv] at c1
  refine c1.mono ?_
  rintro e w2 ⟨rfl, b2⟩
  go_wp2
  go_ret
  exact ⟨rfl, bthen b1 b2⟩
end Go.Proofs.YtokklkmibjpjnaaGreat
namespace Go.Proofs.YtokklkmibjpjnaaGreat
set_option linter.unusedSimpArgs false
set_option linter.unusedVariables false
attribute [local go_sem] n_lt2 n_lt3 n_lt4 n_le2 n_le3
open Go.RowKit
attribute [local go_sem] Ext.cell Ext.frozen

set_option maxRecDepth 100000 in
set_option maxHeartbeats 800000 in
theorem copyJobs_any (A : Option Addr) (n cap : Nat) (l : List Jb) (w : World) (hS : Sl w 5 A n (JB l)) (hl : l.length = n) (hn : n ≤ 1000) (hA : A = none → n = 0 ∧ cap = 0) :
    Calls Tryz.prog 81 #[.slice A n cap] w (RetRow w 71 5 n (JB l)) := by
  have R0 : Row (w.alloc (.cells #[] 71)) w.heap.size 71 5 (some ⟨w.heap.size, 0, none⟩) 0 0 [] := row0p (Blk.new w _ _) (Nat.le_refl _)
  have hnw := fun ad (h : A = some ad) => sl_news (hS.below ((Below.refl w.heap.size w).alloc (Nat.le_refl _) (.cells #[] 71))) h
  have hPl : (JB l).length = n * 5 := by rw [JB_len, hl]
  cases A with
  | none =>
    obtain ⟨rfl, rfl⟩ := hA rfl
    have hz : JB l = [] := List.eq_nil_of_length_eq_zero (by omega)
    rw [hz]
    obtain ⟨i0, hi0, hz0, hs0, hy0⟩ := info_parts info_Job
    clear hnw hS hA hPl
    go_enter Tryz.func81, Tryz.ntmps81
    go_wp2_with (at_builtin; refine wpList_append_own_none rfl _ _ 34 rfl w.heap.size 71 i0 5 Tryz.underlying34 hi0 (.slice (some ⟨w.heap.size, 0, none⟩) 0 0) 0 [] rfl R0 rfl ?_)
    go_ret
    exact RetRow.mk R0 (by (repeat' (first | (with_reducible exact Below.refl _ _) | (with_reducible assumption) | (with_reducible refine Below.alloc ?_ ?_ _) | (with_reducible refine Below.drew ?_) | (with_reducible refine Below.setCell ?_ ?_ _) | (with_reducible refine bstep (by assumption) ?_ ?_) | (with_reducible exact Nat.le_refl _) | omega | (simp [*]; done) | (simp [*]; omega))))
  | some ad =>
    have hnw' := Lib.hid (hnw ad rfl)
    clear hnw hS hA
    go_enter Tryz.func81, Tryz.ntmps81
    go_wp2_with (at_builtin; refine wpList_append_row rfl _ _ 34 rfl 71 (.agg #[.int .i64 0, .int .i64 0, .int .i64 0, .int .i64 0, .int .i64 0]) 5 40 Tryz.underlying34 info_Job (by first | kernel_rfl | simp [Value.cells]) (by decide) w.heap.size (some ⟨w.heap.size, 0, none⟩) 0 0 [] rfl R0 ad n cap (JB l) rfl hPl hnw'.out (by unfold maxLen; omega) (by omega) (by simp) ?_; intro A5 c5 w5 R5 B5)
    go_ret
    simp only [Nat.zero_add, List.nil_append] at R5 ⊢
    exact RetRow.mk R5 (((Below.refl w.heap.size w).alloc (Nat.le_refl _) _).trans B5)
set_option maxRecDepth 100000 in
set_option maxHeartbeats 800000 in
theorem l15Copy_any (A : Option Addr) (n cap : Nat) (l : List Jb) (w : World) (hS : Sl w 5 A n (JB l)) (hl : l.length = n) (hn : n ≤ 1000) (hA : A = none → n = 0 ∧ cap = 0) :
    Calls Tryz.prog 66 #[.slice A n cap] w (RetRow w 71 5 n (JB l)) := by
  have R0 : Row (w.alloc (.cells #[] 71)) w.heap.size 71 5 (some ⟨w.heap.size, 0, none⟩) 0 0 [] := row0p (Blk.new w _ _) (Nat.le_refl _)
  have hnw := fun ad (h : A = some ad) => sl_news (hS.below ((Below.refl w.heap.size w).alloc (Nat.le_refl _) (.cells #[] 71))) h
  have hPl : (JB l).length = n * 5 := by rw [JB_len, hl]
  cases A with
  | none =>
    obtain ⟨rfl, rfl⟩ := hA rfl
    have hz : JB l = [] := List.eq_nil_of_length_eq_zero (by omega)
    rw [hz]
    obtain ⟨i0, hi0, hz0, hs0, hy0⟩ := info_parts info_Job
    clear hnw hS hA hPl
    go_enter Tryz.func66, Tryz.ntmps66
    go_wp2_with (at_builtin; refine wpList_append_own_none rfl _ _ 34 rfl w.heap.size 71 i0 5 Tryz.underlying34 hi0 (.slice (some ⟨w.heap.size, 0, none⟩) 0 0) 0 [] rfl R0 rfl ?_)
    go_ret
    exact RetRow.mk R0 (by (repeat' (first | (with_reducible exact Below.refl _ _) | (with_reducible assumption) | (with_reducible refine Below.alloc ?_ ?_ _) | (with_reducible refine Below.drew ?_) | (with_reducible refine Below.setCell ?_ ?_ _) | (with_reducible refine bstep (by assumption) ?_ ?_) | (with_reducible exact Nat.le_refl _) | omega | (simp [*]; done) | (simp [*]; omega))))
  | some ad =>
    have hnw' := Lib.hid (hnw ad rfl)
    clear hnw hS hA
    go_enter Tryz.func66, Tryz.ntmps66
    go_wp2_with (at_builtin; refine wpList_append_row rfl _ _ 34 rfl 71 (.agg #[.int .i64 0, .int .i64 0, .int .i64 0, .int .i64 0, .int .i64 0]) 5 40 Tryz.underlying34 info_Job (by first | kernel_rfl | simp [Value.cells]) (by decide) w.heap.size (some ⟨w.heap.size, 0, none⟩) 0 0 [] rfl R0 ad n cap (JB l) rfl hPl hnw'.out (by unfold maxLen; omega) (by omega) (by simp) ?_; intro A5 c5 w5 R5 B5)
    go_ret
    simp only [Nat.zero_add, List.nil_append] at R5 ⊢
    exact RetRow.mk R5 (((Below.refl w.heap.size w).alloc (Nat.le_refl _) _).trans B5)
theorem open_any (a b c d e : Int) (w : World) :
    Calls Tryz.prog 119 #[.agg #[.int .i64 a, .int .i64 b, .int .i64 c, .int .i64 d, .int .i64 e]] w fun e' w' => e' = .returned (.bool (decide (e = 0))) ∧ Below w.heap.size w w' := by
  go_enter Tryz.func119, Tryz.ntmps119
  go_wp2
  go_ret
  exact ⟨ret_bool (by by_cases h : e = 0 <;> simp [h]), by (repeat' (first | (with_reducible exact Below.refl _ _) | (with_reducible assumption) | (with_reducible refine Below.alloc ?_ ?_ _) | (with_reducible refine Below.drew ?_) | (with_reducible refine Below.setCell ?_ ?_ _) | (with_reducible refine bstep (by assumption) ?_ ?_) | (with_reducible exact Nat.le_refl _) | omega | (simp [*]; done) | (simp [*]; omega)))⟩
def RetJobs (w : World) (r : List Jb × Bool) (e : Ending) (w' : World) : Prop := RetRowB w 71 5 r.1.length (JB r.1) r.2 e w'
theorem retJobs {w w' : World} {r : List Jb × Bool} {l' : List Jb} {A : Option Addr} {n cap : Nat} {b : Bool} (h : r = (l', b)) (hn : n = l'.length) (R : Row w' w.heap.size 71 5 A n cap (JB l')) (hb : Below w.heap.size w w') :
    RetJobs w r (.returned (.tuple #[.slice A n cap, .bool b])) w' := by
  unfold RetJobs
  rw [h]
  subst hn
  exact ⟨A, cap, rfl, R, hb⟩
theorem firedSet_row {w : World} {g lo n cap k : Nat} {cs : Array Value} {l : List Jb} {v : Int} (K : Blk w g 71 cs) (hlo : lo ≤ g) (hnc : n ≤ cap) (hcm : cap ≤ maxLen) (hcs : cs.size = cap * 5) (hl : l.length = n) (hj : ∀ j, j < n * 5 → cs[j]? = some (.int .i64 ((JB l).getD j 0)))
    (hk : k < n) : Row (w.setCell ⟨g, k * 5 + 4, none⟩ (.int .i64 v)) lo 71 5 (some ⟨g, 0, none⟩) n cap (JB (firedSet l k v)) := by
  refine Row.of_blk (K.set_ _ _) hlo hnc hcm (by simpa using hcs) (by rw [JB_len]; simp [firedSet]; omega) (fun t ht => ?_)
  rw [JB_fired_getD l k v (by omega) t (by omega)]
  by_cases h : t = k * 5 + 4
  · subst h
    rw [if_pos rfl, Array.getElem?_setIfInBounds_self_of_lt (by omega)]
  · rw [if_neg h, Array.getElem?_setIfInBounds_ne (by omega), hj t ht]
theorem Row.cells5 {w : World} {lo : Nat} {A : Option Addr} {n cap : Nat} {l : List Jb} (R : Row w lo 71 5 A n cap (JB l)) (hl : l.length = n) (hn : 0 < n) :
    ∃ g cs, A = some ⟨g, 0, none⟩ ∧ lo ≤ g ∧ Blk w g 71 cs ∧ cs.size = cap * 5 ∧ (∀ j, j < n * 5 → cs[j]? = some (.int .i64 ((JB l).getD j 0))) ∧
      ∀ i, i < n → w.cell? ⟨g, i * 5, none⟩ = some (.int .i64 (l.getD i default).i) ∧ w.cell? ⟨g, i * 5 + 1, none⟩ = some (.int .i64 (l.getD i default).d) ∧ w.cell? ⟨g, i * 5 + 2, none⟩ = some (.int .i64 (l.getD i default).k) ∧ w.cell? ⟨g, i * 5 + 3, none⟩ = some (.int .i64 (l.getD i default).v) ∧ w.cell? ⟨g, i * 5 + 4, none⟩ = some (.int .i64 (l.getD i default).f) := by
  obtain ⟨g, cs, hA, hlo, K, _, _, hcs, hj⟩ := R.blk hn
  have hg : ∀ i, i < n → ∀ j, j < 5 → w.cell? ⟨g, i * 5 + j, none⟩ = some (.int .i64 ([(l.getD i default).i, (l.getD i default).d, (l.getD i default).k, (l.getD i default).v, (l.getD i default).f].getD j 0)) := fun i hi j hj' => by
    rw [K.cell, hj _ (by omega), JB_get l i j (by omega) hj']
  exact ⟨g, cs, hA, hlo, K, hcs, hj, fun i hi => ⟨hg i hi 0 (by decide), hg i hi 1 (by decide), hg i hi 2 (by decide), hg i hi 3 (by decide), hg i hi 4 (by decide)⟩⟩

set_option maxRecDepth 100000 in
set_option maxHeartbeats 4000000 in
theorem jobFired_walk (A : Option Addr) (n cap : Nat) (l : List Jb) (id x : Int) (w : World) (hS : Sl w 5 A n (JB l)) (hl : l.length = n) (hn : n ≤ maxLen) (hA : A = none → n = 0 ∧ cap = 0) :
    Calls Tryz.prog 106 #[.slice A n cap, .int .i64 id, .int .i64 x] w (RetJobs w (firedR l id x)) := by
  have c1 := jobsOk_any A n cap l w hS hl hn
  by_cases hpa : jobsB l = true
  · have h8 : n ≤ 8 := by have := (jobsB_all hpa).1; omega
    rw [hpa] at c1
    have HL := Lib.hid hl
    have HS := Lib.hid hS
    have HPA := Lib.hid hpa
    clear hpa hl hS
    by_cases hk : jobIx l id < l.length
    · have ha : placeJ l id = (jobIx l id : Int) := by unfold placeJ; rw [if_pos hk]
      have HK0 := Lib.hid hk
      obtain ⟨k, hkk⟩ : ∃ k, k = jobIx l id := ⟨_, rfl⟩
      rw [← hkk] at ha hk
      have HKK := Lib.hid hkk
      have HA := Lib.hid ha
      have hkn : k < n := by have := HL.out; omega
      have hkn' : (k : Int) < (n : Int) := by omega
      clear hk hkk ha
      have pre : ∀ w1, Below w.heap.size w w1 → Calls Tryz.prog 81 #[.slice A n cap] w1 (RetRow w1 71 5 n (JB l)) := fun w1 b1 => copyJobs_any A n cap l w1 (HS.out.below b1) HL.out (by omega) hA
      have PRE := Lib.hid pre
      clear pre
      by_cases hf0 : (l.getD k default).f = 0
      · by_cases hin : inB x 1 2000 = true
        · by_cases hfb : l.findIdx (fun p => decide (p.f = x)) < l.length
          · -- another job has that index
            have HF := Lib.hid (show firedR l id x = (l, false) by unfold firedR; rw [if_pos HPA.out, if_neg]; unfold firedOk; rw [firIx_hit hfb]; simp)
            have hpf : placeF l x = (firIx l x : Int) := by unfold placeF firIx; rw [if_pos hfb]
            have HPF := Lib.hid hpf
            clear hpf hfb
            generalize firIx l x = kf at HPF
            have hf0' := Lib.hid hf0
            clear hf0
            go_enter Tryz.func106, Tryz.ntmps106
            go_wp2_with fail
            refine c1.mono ?_
            rintro e w1 ⟨rfl, b1⟩
            go_wp2_with fail
            refine (PRE.out w1 b1).mono ?_
            rintro e w2 ⟨A2, cap2, rfl, R2, b2⟩
            have f2 := bthen b1 b2
            have c3 := placeJob_any A2 n cap2 l id w2 R2.sl HL.out (by unfold maxLen; omega)
            rw [HA.out] at c3
            go_wp2_with fail
            refine c3.mono ?_
            rintro e w3 ⟨rfl, b3⟩
            have R3 := (R2.below b3).mono b1.size
            have f3 := bthen f2 b3
            obtain ⟨g, cs, rfl, hlg, K, hcs, hj, hcell⟩ := R3.cells5 HL.out (by omega)
            obtain ⟨h0, h1, h2, h3, h4⟩ := hcell k hkn
            rw [hf0'.out] at h4
            have hcm : cap2 ≤ 9223372036854775807 := by have := R3.cap_le.2; unfold maxLen at this; omega
            clear hcell hj hcs
            generalize (l.getD k default).i = y0 at h0
            generalize (l.getD k default).d = y1 at h1
            generalize (l.getD k default).k = y2 at h2
            generalize (l.getD k default).v = y3 at h3
            go_wp2_with fail
            refine (open_any _ _ _ _ _ _).mono ?_
            rintro e w4 ⟨rfl, b4⟩
            have R4 := R3.below b4
            have f4 := bthen f3 b4
            go_wp2_with ((go_at_call 93; refine (indexOk_any _ _).mono ?_; rintro e w' ⟨rfl, rfl⟩))
            have c5 := placeFir_any (some ⟨g, 0, none⟩) n cap2 l x w4 R4.sl HL.out (by unfold maxLen; omega)
            rw [HPF.out] at c5
            refine c5.mono ?_
            rintro e w5 ⟨rfl, b5⟩
            have R5 := R4.below b5
            have f5 := bthen f4 b5
            go_wp2
            refine bodyPost_ret (v := .tuple #[.slice (some ⟨g, 0, none⟩) n cap2, .bool false]) (by simp [results, Tryz.results106, go_sem, *]) rfl ?_
            exact retJobs HF.out HL.out.symm R5 f5
          · have HF := Lib.hid (show firedR l id x = (firedSet l k x, true) by
              unfold firedR
              rw [if_pos HPA.out, if_pos, HKK.out]
              unfold firedOk
              rw [firIx_miss hfb, hin, ← HKK.out, decide_eq_true (by have := HL.out; omega), decide_eq_true hf0]
              rfl)
            have hpf : placeF l x = -1 := by unfold placeF firIx; rw [if_neg hfb]
            have HPF := Lib.hid hpf
            have hf0' := Lib.hid hf0
            clear hpf hfb hf0
            go_enter Tryz.func106, Tryz.ntmps106
            go_wp2_with fail
            refine c1.mono ?_
            rintro e w1 ⟨rfl, b1⟩
            go_wp2_with fail
            refine (PRE.out w1 b1).mono ?_
            rintro e w2 ⟨A2, cap2, rfl, R2, b2⟩
            have f2 := bthen b1 b2
            have c3 := placeJob_any A2 n cap2 l id w2 R2.sl HL.out (by unfold maxLen; omega)
            rw [HA.out] at c3
            go_wp2_with fail
            refine c3.mono ?_
            rintro e w3 ⟨rfl, b3⟩
            have R3 := (R2.below b3).mono b1.size
            have f3 := bthen f2 b3
            obtain ⟨g, cs, rfl, hlg, K, hcs, hj, hcell⟩ := R3.cells5 HL.out (by omega)
            obtain ⟨h0, h1, h2, h3, h4⟩ := hcell k hkn
            rw [hf0'.out] at h4
            have hcp := R3.cap_le
            have hcm : cap2 ≤ 9223372036854775807 := by have := hcp.2; unfold maxLen at this; omega
            have HJ := Lib.hid (And.intro hcs (And.intro hj hcp))
            clear hcell hj hcs hcp
            generalize (l.getD k default).i = y0 at h0
            generalize (l.getD k default).d = y1 at h1
            generalize (l.getD k default).k = y2 at h2
            generalize (l.getD k default).v = y3 at h3
            go_wp2_with fail
            refine (open_any _ _ _ _ _ _).mono ?_
            rintro e w4 ⟨rfl, b4⟩
            have R4 := R3.below b4
            have f4 := bthen f3 b4
            go_wp2_with ((go_at_call 93; refine (indexOk_any _ _).mono ?_; rintro e w' ⟨rfl, rfl⟩))
            have c5 := placeFir_any (some ⟨g, 0, none⟩) n cap2 l x w4 R4.sl HL.out (by unfold maxLen; omega)
            rw [HPF.out] at c5
            refine c5.mono ?_
            rintro e w5 ⟨rfl, b5⟩
            have K5 := (K.below b4).below b5
            have f5 := bthen f4 b5
            have hc5 : ∃ c, w5.cell? ⟨g, k * 5 + 4, none⟩ = some c := K5.has (by have := HJ.out.1; have := HJ.out.2.2.1; omega)
            obtain ⟨c, hc5⟩ := hc5
            have hfz := K5.frozen (k * 5 + 4)
            have HK5 := Lib.hid K5
            clear h0 h1 h2 h3 h4 K K5 c3 c5
            go_wp2
            refine bodyPost_ret (v := .tuple #[.slice (some ⟨g, 0, none⟩) n cap2, .bool true]) (by simp [results, Tryz.results106, go_sem, *]) rfl ?_
            exact retJobs HF.out (by simp [firedSet, HL.out]) (firedSet_row HK5.out hlg HJ.out.2.2.1 HJ.out.2.2.2 HJ.out.1 HL.out HJ.out.2.1 hkn) (f5.setCell hlg _)
        · have hin' : inB x 1 2000 = false := by simpa using hin
          have HF := Lib.hid (show firedR l id x = (l, false) by unfold firedR; rw [if_pos HPA.out, if_neg]; unfold firedOk; rw [hin']; simp)
          have hf0' := Lib.hid hf0
          clear hf0 hin
          go_enter Tryz.func106, Tryz.ntmps106
          go_wp2_with fail
          refine c1.mono ?_
          rintro e w1 ⟨rfl, b1⟩
          go_wp2_with fail
          refine (PRE.out w1 b1).mono ?_
          rintro e w2 ⟨A2, cap2, rfl, R2, b2⟩
          have f2 := bthen b1 b2
          have c3 := placeJob_any A2 n cap2 l id w2 R2.sl HL.out (by unfold maxLen; omega)
          rw [HA.out] at c3
          go_wp2_with fail
          refine c3.mono ?_
          rintro e w3 ⟨rfl, b3⟩
          have R3 := (R2.below b3).mono b1.size
          have f3 := bthen f2 b3
          obtain ⟨g, cs, rfl, hlg, K, hcs, hj, hcell⟩ := R3.cells5 HL.out (by omega)
          obtain ⟨h0, h1, h2, h3, h4⟩ := hcell k hkn
          rw [hf0'.out] at h4
          have hcm : cap2 ≤ 9223372036854775807 := by have := R3.cap_le.2; unfold maxLen at this; omega
          clear hcell hj hcs
          generalize (l.getD k default).i = y0 at h0
          generalize (l.getD k default).d = y1 at h1
          generalize (l.getD k default).k = y2 at h2
          generalize (l.getD k default).v = y3 at h3
          go_wp2_with fail
          refine (open_any _ _ _ _ _ _).mono ?_
          rintro e w4 ⟨rfl, b4⟩
          have R4 := R3.below b4
          have f4 := bthen f3 b4
          go_wp2_with ((go_at_call 93; refine (indexOk_any _ _).mono ?_; rintro e w' ⟨rfl, rfl⟩))
          refine bodyPost_ret (v := .tuple #[.slice (some ⟨g, 0, none⟩) n cap2, .bool false]) (by simp [results, Tryz.results106, go_sem, *]) rfl ?_
          exact retJobs HF.out HL.out.symm R4 f4
      · have HF := Lib.hid (show firedR l id x = (l, false) by
          unfold firedR
          rw [if_pos HPA.out, if_neg]
          unfold firedOk
          rw [← HKK.out, decide_eq_false hf0]
          simp)
        have HF0 := Lib.hid hf0
        clear hf0
        go_enter Tryz.func106, Tryz.ntmps106
        go_wp2_with fail
        refine c1.mono ?_
        rintro e w1 ⟨rfl, b1⟩
        go_wp2_with fail
        refine (PRE.out w1 b1).mono ?_
        rintro e w2 ⟨A2, cap2, rfl, R2, b2⟩
        have f2 := bthen b1 b2
        have c3 := placeJob_any A2 n cap2 l id w2 R2.sl HL.out (by unfold maxLen; omega)
        rw [HA.out] at c3
        go_wp2_with fail
        refine c3.mono ?_
        rintro e w3 ⟨rfl, b3⟩
        have R3 := (R2.below b3).mono b1.size
        have f3 := bthen f2 b3
        obtain ⟨g, cs, rfl, hlg, K, hcs, hj, hcell⟩ := R3.cells5 HL.out (by omega)
        obtain ⟨h0, h1, h2, h3, h4⟩ := hcell k hkn
        have hcm : cap2 ≤ 9223372036854775807 := by have := R3.cap_le.2; unfold maxLen at this; omega
        clear hcell hj hcs
        generalize (l.getD k default).i = y0 at h0
        generalize (l.getD k default).d = y1 at h1
        generalize (l.getD k default).k = y2 at h2
        generalize (l.getD k default).v = y3 at h3
        have hff : ¬ (l.getD k default).f = 0 := HF0.out
        generalize (l.getD k default).f = y4 at h4 hff
        have hd := decide_eq_false hff
        go_wp2_with fail
        refine (open_any _ _ _ _ _ _).mono ?_
        rintro e w4 ⟨rfl, b4⟩
        rw [hd]
        have R4 := R3.below b4
        have f4 := bthen f3 b4
        clear hff hd
        go_wp2
        refine bodyPost_ret (v := .tuple #[.slice (some ⟨g, 0, none⟩) n cap2, .bool false]) (by simp [results, Tryz.results106, go_sem, *]) rfl ?_
        exact retJobs HF.out HL.out.symm R4 f4
    · have ha : placeJ l id = -1 := by unfold placeJ; rw [if_neg hk]
      have HA := Lib.hid ha
      have HF := Lib.hid (show firedR l id x = (l, false) by unfold firedR; rw [if_pos HPA.out, if_neg]; unfold firedOk; rw [decide_eq_false hk]; simp)
      clear ha hk
      go_enter Tryz.func106, Tryz.ntmps106
      go_wp2_with fail
      refine c1.mono ?_
      rintro e w1 ⟨rfl, b1⟩
      go_wp2_with fail
      refine (copyJobs_any A n cap l w1 (HS.out.below b1) HL.out (by omega) hA).mono ?_
      rintro e w2 ⟨A2, cap2, rfl, R2, b2⟩
      have f2 := bthen b1 b2
      have c3 := placeJob_any A2 n cap2 l id w2 R2.sl HL.out (by unfold maxLen; omega)
      rw [HA.out] at c3
      go_wp2_with fail
      refine c3.mono ?_
      rintro e w3 ⟨rfl, b3⟩
      have R3 := (R2.below b3).mono b1.size
      go_wp2
      refine bodyPost_ret (v := .tuple #[.slice A2 n cap2, .bool false]) (by simp [results, Tryz.results106, go_sem, *]) rfl ?_
      exact retJobs HF.out HL.out.symm R3 (bthen f2 b3)
  · have hpa' : jobsB l = false := by simpa using hpa
    have HF := Lib.hid (show firedR l id x = ([], false) by unfold firedR; rw [if_neg hpa])
    rw [hpa'] at c1
    go_enter Tryz.func106, Tryz.ntmps106
    go_wp2_with fail
    refine c1.mono ?_
    rintro e w1 ⟨rfl, b1⟩
    go_wp2
    refine bodyPost_ret (v := .tuple #[.slice none 0 0, .bool false]) (by simp [results, Tryz.results106, go_sem, *]) rfl ?_
    exact retJobs HF.out rfl (Row.nil _ _ _ _) b1
end Go.Proofs.YtokklkmibjpjnaaGreat
namespace Go.Proofs.YtokklkmibjpjnaaGreat
set_option linter.unusedSimpArgs false
set_option linter.unusedVariables false
attribute [local go_sem] n_lt2 n_lt3 n_lt4 n_le2 n_le3
open Go.RowKit
attribute [local go_sem] Ext.cell Ext.frozen
theorem hl_drew {W v : World} {g : Nat} (h : ∀ b o, b < g → v.cell? ⟨b, o, none⟩ = W.cell? ⟨b, o, none⟩) : ∀ b o, b < g → v.drew.cell? ⟨b, o, none⟩ = W.cell? ⟨b, o, none⟩ := h
theorem hl_alloc {W v : World} {g : Nat} (h : ∀ b o, b < g → v.cell? ⟨b, o, none⟩ = W.cell? ⟨b, o, none⟩) (hz : g ≤ v.heap.size) (x : Obj) : ∀ b o, b < g → (v.alloc x).cell? ⟨b, o, none⟩ = W.cell? ⟨b, o, none⟩ := fun b o hb => (Below.cell (p := ⟨b, o, none⟩) ((Below.refl v.heap.size v).alloc (Nat.le_refl _) x) (Nat.lt_of_lt_of_le hb hz)).trans (h b o hb)
theorem hl_set {W v : World} {g k : Nat} (h : ∀ b o, b < g → v.cell? ⟨b, o, none⟩ = W.cell? ⟨b, o, none⟩) (hz : g ≤ k) (j : Nat) (y : Value) : ∀ b o, b < g → (v.setCell ⟨k, j, none⟩ y).cell? ⟨b, o, none⟩ = W.cell? ⟨b, o, none⟩ := fun b o hb => (World.cell?_setCell_far _ _ _ _ (by show k ≠ b; omega)).trans (h b o hb)
theorem hl_set7 {W v : World} {g k : Nat} (h : ∀ b o, b < g → v.cell? ⟨b, o, none⟩ = W.cell? ⟨b, o, none⟩) (hz : g ≤ k) (y0 y1 y2 y3 y4 y5 y6 : Value) : ∀ b o, b < g → (((((((v.setCell ⟨k, 0, none⟩ y0).setCell ⟨k, 1, none⟩ y1).setCell ⟨k, 2, none⟩ y2).setCell ⟨k, 3, none⟩ y3).setCell ⟨k, 4, none⟩ y4).setCell ⟨k, 5, none⟩ y5).setCell ⟨k, 6, none⟩ y6).cell? ⟨b, o, none⟩ = W.cell? ⟨b, o, none⟩ := (hl_set (hl_set (hl_set (hl_set (hl_set (hl_set (hl_set h hz 0 y0) hz 1 y1) hz 2 y2) hz 3 y3) hz 4 y4) hz 5 y5) hz 6 y6)

theorem row_nil {w : World} {lo : Nat} {e : TypeId} {s : Nat} {A : Option Addr} {n cap : Nat} {zs : List Int} (h : Row w lo e s A n cap zs) : A = none → n = 0 ∧ cap = 0 := fun hA => by
  subst hA
  rcases h.2 with ⟨hv, h0⟩ | ⟨g, c, cur, hv, _⟩
  · injection hv with _ _ hc
    exact ⟨h0, hc⟩
  · injection hv with h1
    exact absurd h1 (by simp)
set_option maxRecDepth 100000 in
set_option maxHeartbeats 2000000 in
theorem l17Copy_any (A : Option Addr) (n c : Nat) (B : Option Addr) (m d : Nat) (i0 t0 l0 l1 l2 : Int) (pl : List Pr) (ql : List Jb) (w : World) (hP : Sl w 2 A n (PR pl)) (hQ : Sl w 5 B m (JB ql)) (hl : pl.length = n) (hr : ql.length = m) (hn : n ≤ 1000) (hm : m ≤ 1000) (hA : A = none → n = 0 ∧ c = 0) (hB : B = none → m = 0 ∧ d = 0) :
    Calls Tryz.prog 28 #[.agg #[.int .i64 i0, .int .i64 t0, .slice A n c, .slice B m d, .int .i64 l0, .int .i64 l1, .int .i64 l2]] w (RetState w i0 t0 l0 l1 l2 n (PR pl) m (JB ql)) := by
  have HP := Lib.hid hP
  have HQ := Lib.hid hQ
  have HA := Lib.hid hA
  have HB := Lib.hid hB
  have hL := Lib.hid hl
  have hR := Lib.hid hr
  clear hP hQ hA hB hl hr
  go_enter Tryz.func28, Tryz.ntmps28
  go_wp2_with fail
  refine calls_named ?_
  rintro v0 hv0
  have f0 : Below w.heap.size w v0 := by rw [hv0]; (repeat' (first | (with_reducible exact Below.refl _ _) | (with_reducible assumption) | (with_reducible refine Below.alloc ?_ ?_ _) | (with_reducible refine Below.drew ?_) | (with_reducible refine Below.setCell ?_ ?_ _) | (with_reducible refine bstep (by assumption) ?_ ?_) | (with_reducible exact Nat.le_refl _) | omega | (simp [*]; done) | (simp [*]; omega)))
  have z0 : w.heap.size + 2 ≤ v0.heap.size := by rw [hv0]; simp [size_set]
  have HP_0 := Lib.hid (HP.out.below f0)
  have HP_lt := Lib.hid (fun hn => HP.out.lt hn)
  have HQ_0 := Lib.hid (HQ.out.below f0)
  have HQ_lt := Lib.hid (fun hn => HQ.out.lt hn)
  have Ha_0 : Hid (Blk v0 w.heap.size 37 #[.int .i64 i0, .int .i64 t0, .slice A n c, .slice B m d, .int .i64 l0, .int .i64 l1, .int .i64 l2]) := by rw [hv0]; exact (Blk.new_at _ _ _ _ (by simp)).alloc _
  have Hr_0 : Hid (Blk v0 (w.heap.size + 1) 37 #[.int .i64 0, .int .i64 0, .slice none 0 0, .slice none 0 0, .int .i64 0, .int .i64 0, .int .i64 0]) := by rw [hv0]; exact Blk.new_at _ _ _ _ (by simp)
  clear hv0
  generalize hg1 : w.heap.size + 1 = g1 at *
  have lg1 : w.heap.size < g1 := by omega
  have lgz : g1 < v0.heap.size := by omega
  have nq1x0 : ¬ g1 = w.heap.size := by omega
  have nq0x1 : ¬ w.heap.size = g1 := by omega
  clear hg1
  have lt_a := Ha_0.out.lt
  obtain ⟨r_a0, r_a1, r_a2, r_a3, r_a4, r_a5, r_a6⟩ := bc7 Ha_0.out
  obtain ⟨z_a0, z_a1, z_a2, z_a3, z_a4, z_a5, z_a6⟩ := bf7 Ha_0.out
  have lt_r := Hr_0.out.lt
  obtain ⟨r_r0, r_r1, r_r2, r_r3, r_r4, r_r5, r_r6⟩ := bc7 Hr_0.out
  obtain ⟨z_r0, z_r1, z_r2, z_r3, z_r4, z_r5, z_r6⟩ := bf7 Hr_0.out
  refine (l14Copy_any A n c pl _ HP_0.out hL.out hn HA.out).mono ?_
  rintro e v1 ⟨A1, c1, rfl, Rx, b1⟩
  have f1 := bthen f0 b1
  have z1 := b1.size
  have HP_1 := Lib.hid (HP_0.out.below b1)
  have HQ_1 := Lib.hid (HQ_0.out.below b1)
  have Ha_1 := Lib.hid (Ha_0.out.below b1)
  have Hr_1 := Lib.hid (Hr_0.out.below b1)
  clear lt_a r_a0 r_a1 r_a2 r_a3 r_a4 r_a5 r_a6 z_a0 z_a1 z_a2 z_a3 z_a4 z_a5 z_a6 lt_r r_r0 r_r1 r_r2 r_r3 r_r4 r_r5 r_r6 z_r0 z_r1 z_r2 z_r3 z_r4 z_r5 z_r6
  clear HP_0 HQ_0 Ha_0 Hr_0
  have Hx_1 := Lib.hid Rx
  clear Rx
  have Lx := Lib.hid (Hx_1.out.lt)
  have lt_a := Ha_1.out.lt
  obtain ⟨r_a0, r_a1, r_a2, r_a3, r_a4, r_a5, r_a6⟩ := bc7 Ha_1.out
  obtain ⟨z_a0, z_a1, z_a2, z_a3, z_a4, z_a5, z_a6⟩ := bf7 Ha_1.out
  have lt_r := Hr_1.out.lt
  obtain ⟨r_r0, r_r1, r_r2, r_r3, r_r4, r_r5, r_r6⟩ := bc7 Hr_1.out
  obtain ⟨z_r0, z_r1, z_r2, z_r3, z_r4, z_r5, z_r6⟩ := bf7 Hr_1.out
  go_wp2_with fail
  refine calls_named ?_
  rintro v2 hv2
  have f2 : Below w.heap.size w v2 := by rw [hv2]; (repeat' (first | (with_reducible exact Below.refl _ _) | (with_reducible assumption) | (with_reducible refine Below.alloc ?_ ?_ _) | (with_reducible refine Below.drew ?_) | (with_reducible refine Below.setCell ?_ ?_ _) | (with_reducible refine bstep (by assumption) ?_ ?_) | (with_reducible exact Nat.le_refl _) | omega | (simp [*]; done) | (simp [*]; omega)))
  have z2 : v1.heap.size + 0 ≤ v2.heap.size := by rw [hv2]; simp [size_set]
  have HP_2 : Hid (Sl v2 2 A n (PR pl)) := by rw [hv2]; exact (HP_1.out).far (p := ⟨w.heap.size, 2, none⟩) (fun hn a ha => by have := HP_lt.out hn a ha; show a.block ≠ w.heap.size; omega) _
  have HQ_2 : Hid (Sl v2 5 B m (JB ql)) := by rw [hv2]; exact (HQ_1.out).far (p := ⟨w.heap.size, 2, none⟩) (fun hn a ha => by have := HQ_lt.out hn a ha; show a.block ≠ w.heap.size; omega) _
  have Ha_2 : Hid (Blk v2 w.heap.size 37 #[.int .i64 i0, .int .i64 t0, .slice A1 n c1, .slice B m d, .int .i64 l0, .int .i64 l1, .int .i64 l2]) := by rw [hv2]; exact (Ha_1.out).set_ 2 _
  have Hr_2 : Hid (Blk v2 g1 37 #[.int .i64 0, .int .i64 0, .slice none 0 0, .slice none 0 0, .int .i64 0, .int .i64 0, .int .i64 0]) := by rw [hv2]; exact (Hr_1.out).far (p := ⟨w.heap.size, 2, none⟩) (show g1 ≠ w.heap.size by omega) _
  have Hx_2 : Hid (Row v2 v0.heap.size 106 2 A1 n c1 (PR pl)) := by rw [hv2]; exact (Hx_1.out).far (p := ⟨w.heap.size, 2, none⟩) (fun a ha => by have := (Hx_1.out).ge a ha; show a.block ≠ w.heap.size; omega) _
  clear lt_a r_a0 r_a1 r_a2 r_a3 r_a4 r_a5 r_a6 z_a0 z_a1 z_a2 z_a3 z_a4 z_a5 z_a6 lt_r r_r0 r_r1 r_r2 r_r3 r_r4 r_r5 r_r6 z_r0 z_r1 z_r2 z_r3 z_r4 z_r5 z_r6
  clear hv2 HP_1 HQ_1 Ha_1 Hr_1 Hx_1
  have lt_a := Ha_2.out.lt
  obtain ⟨r_a0, r_a1, r_a2, r_a3, r_a4, r_a5, r_a6⟩ := bc7 Ha_2.out
  obtain ⟨z_a0, z_a1, z_a2, z_a3, z_a4, z_a5, z_a6⟩ := bf7 Ha_2.out
  have lt_r := Hr_2.out.lt
  obtain ⟨r_r0, r_r1, r_r2, r_r3, r_r4, r_r5, r_r6⟩ := bc7 Hr_2.out
  obtain ⟨z_r0, z_r1, z_r2, z_r3, z_r4, z_r5, z_r6⟩ := bf7 Hr_2.out
  refine (l15Copy_any B m d ql _ HQ_2.out hR.out hm HB.out).mono ?_
  rintro e v3 ⟨B1, d1, rfl, Ry, b3⟩
  have f3 := bthen f2 b3
  have z3 := b3.size
  have HP_3 := Lib.hid (HP_2.out.below b3)
  have HQ_3 := Lib.hid (HQ_2.out.below b3)
  have Ha_3 := Lib.hid (Ha_2.out.below b3)
  have Hr_3 := Lib.hid (Hr_2.out.below b3)
  have Hx_3 := Lib.hid (Hx_2.out.below b3)
  clear lt_a r_a0 r_a1 r_a2 r_a3 r_a4 r_a5 r_a6 z_a0 z_a1 z_a2 z_a3 z_a4 z_a5 z_a6 lt_r r_r0 r_r1 r_r2 r_r3 r_r4 r_r5 r_r6 z_r0 z_r1 z_r2 z_r3 z_r4 z_r5 z_r6
  clear HP_2 HQ_2 Ha_2 Hr_2 Hx_2
  have Hy_3 := Lib.hid Ry
  clear Ry
  have hap : ∀ a b, A1 = some a → B1 = some b → a.block ≠ b.block := fun a b ha hb => by
    have h1 := Lx.out a ha
    have h2 := Hy_3.out.ge b hb
    omega
  have HAP := Lib.hid hap
  clear hap
  have lt_a := Ha_3.out.lt
  obtain ⟨r_a0, r_a1, r_a2, r_a3, r_a4, r_a5, r_a6⟩ := bc7 Ha_3.out
  obtain ⟨z_a0, z_a1, z_a2, z_a3, z_a4, z_a5, z_a6⟩ := bf7 Ha_3.out
  have lt_r := Hr_3.out.lt
  obtain ⟨r_r0, r_r1, r_r2, r_r3, r_r4, r_r5, r_r6⟩ := bc7 Hr_3.out
  obtain ⟨z_r0, z_r1, z_r2, z_r3, z_r4, z_r5, z_r6⟩ := bf7 Hr_3.out
  go_wp21
  refine bodyPost_ret (v := .agg #[.int .i64 i0, .int .i64 t0, .slice A1 n c1, .slice B1 m d1, .int .i64 l0, .int .i64 l1, .int .i64 l2]) (by simp [results, Tryz.results28, go_sem, *]) rfl ?_
  exact ⟨A1, c1, B1, d1, rfl, (((((((((Hx_3.out).far (p := ⟨w.heap.size, 3, none⟩) (fun a ha => by have := (Hx_3.out).ge a ha; show a.block ≠ w.heap.size; omega) _).far (p := ⟨g1, 0, none⟩) (fun a ha => by have := (Hx_3.out).ge a ha; show a.block ≠ g1; omega) _).far (p := ⟨g1, 1, none⟩) (fun a ha => by have := (Hx_3.out).ge a ha; show a.block ≠ g1; omega) _).far (p := ⟨g1, 2, none⟩) (fun a ha => by have := (Hx_3.out).ge a ha; show a.block ≠ g1; omega) _).far (p := ⟨g1, 3, none⟩) (fun a ha => by have := (Hx_3.out).ge a ha; show a.block ≠ g1; omega) _).far (p := ⟨g1, 4, none⟩) (fun a ha => by have := (Hx_3.out).ge a ha; show a.block ≠ g1; omega) _).far (p := ⟨g1, 5, none⟩) (fun a ha => by have := (Hx_3.out).ge a ha; show a.block ≠ g1; omega) _).far (p := ⟨g1, 6, none⟩) (fun a ha => by have := (Hx_3.out).ge a ha; show a.block ≠ g1; omega) _).mono (by omega), (((((((((Hy_3.out).far (p := ⟨w.heap.size, 3, none⟩) (fun a ha => by have := (Hy_3.out).ge a ha; show a.block ≠ w.heap.size; omega) _).far (p := ⟨g1, 0, none⟩) (fun a ha => by have := (Hy_3.out).ge a ha; show a.block ≠ g1; omega) _).far (p := ⟨g1, 1, none⟩) (fun a ha => by have := (Hy_3.out).ge a ha; show a.block ≠ g1; omega) _).far (p := ⟨g1, 2, none⟩) (fun a ha => by have := (Hy_3.out).ge a ha; show a.block ≠ g1; omega) _).far (p := ⟨g1, 3, none⟩) (fun a ha => by have := (Hy_3.out).ge a ha; show a.block ≠ g1; omega) _).far (p := ⟨g1, 4, none⟩) (fun a ha => by have := (Hy_3.out).ge a ha; show a.block ≠ g1; omega) _).far (p := ⟨g1, 5, none⟩) (fun a ha => by have := (Hy_3.out).ge a ha; show a.block ≠ g1; omega) _).far (p := ⟨g1, 6, none⟩) (fun a ha => by have := (Hy_3.out).ge a ha; show a.block ≠ g1; omega) _).mono (by omega), HAP.out, by (repeat' (first | (with_reducible exact Below.refl _ _) | (with_reducible assumption) | (with_reducible refine Below.alloc ?_ ?_ _) | (with_reducible refine Below.drew ?_) | (with_reducible refine Below.setCell ?_ ?_ _) | (with_reducible refine bstep (by assumption) ?_ ?_) | (with_reducible exact Nat.le_refl _) | omega | (simp [*]; done) | (simp [*]; omega)))⟩
theorem below_und {v w' : World} (h : Below v.drew.heap.size v.drew w') : Below v.heap.size v w' := ⟨h.os, h.tape, h.output, h.size, h.block⟩
set_option maxRecDepth 100000 in
set_option maxHeartbeats 4000000 in
theorem copyState_any (A : Option Addr) (n c : Nat) (B : Option Addr) (m d : Nat) (i0 t0 l0 l1 l2 : Int) (pl : List Pr) (ql : List Jb) (w : World) (hP : Sl w 2 A n (PR pl)) (hQ : Sl w 5 B m (JB ql)) (hl : pl.length = n) (hr : ql.length = m) (hn : n ≤ 1000) (hm : m ≤ 1000) (hA : A = none → n = 0 ∧ c = 0) (hB : B = none → m = 0 ∧ d = 0) :
    Calls Tryz.prog 42 #[.agg #[.int .i64 i0, .int .i64 t0, .slice A n c, .slice B m d, .int .i64 l0, .int .i64 l1, .int .i64 l2]] w (RetState w i0 t0 l0 l1 l2 n (PR pl) m (JB ql)) := by
  have HP := Lib.hid hP
  have HQ := Lib.hid hQ
  have HA := Lib.hid hA
  have HB := Lib.hid hB
  have hL := Lib.hid hl
  have hR := Lib.hid hr
  clear hP hQ hA hB hl hr
  go_enter Tryz.func42, Tryz.ntmps42
  go_wp2
  obtain ⟨v, hv⟩ : ∃ v : World, v = (w.alloc (.cells #[.int .i64 i0, .int .i64 t0, .slice A n c, .slice B m d, .int .i64 l0, .int .i64 l1, .int .i64 l2] 37)).alloc (.cells #[.int .i64 0, .int .i64 0, .slice none 0 0, .slice none 0 0, .int .i64 0, .int .i64 0, .int .i64 0] 37) := ⟨_, rfl⟩
  try rw [← hv]
  obtain ⟨g1, hg1⟩ : ∃ g, g = w.heap.size + 1 := ⟨_, rfl⟩
  try rw [← hg1]
  have K0 : Hid (Blk v w.heap.size 37 #[.int .i64 i0, .int .i64 t0, .slice A n c, .slice B m d, .int .i64 l0, .int .i64 l1, .int .i64 l2]) := by rw [hv]; exact (Blk.new_at _ _ _ _ (by simp)).alloc _
  have K1 : Hid (Blk v g1 37 #[.int .i64 0, .int .i64 0, .slice none 0 0, .slice none 0 0, .int .i64 0, .int .i64 0, .int .i64 0]) := by rw [hv, hg1]; exact Blk.new_at _ _ _ _ (by simp)
  have hF : Hid (Below w.heap.size w v) := Lib.hid (by rw [hv]; (repeat' (first | (with_reducible exact Below.refl _ _) | (with_reducible assumption) | (with_reducible refine Below.alloc ?_ ?_ _) | (with_reducible refine Below.drew ?_) | (with_reducible refine Below.setCell ?_ ?_ _) | (with_reducible refine bstep (by assumption) ?_ ?_) | (with_reducible exact Nat.le_refl _) | omega | (simp [*]; done) | (simp [*]; omega))))
  have hlg : w.heap.size ≤ g1 := by omega
  have hng : g1 ≠ w.heap.size := by omega
  have hgl : g1 < v.heap.size := K1.out.lt
  have HP0 := Lib.hid (HP.out.below hF.out)
  have HQ0 := Lib.hid (HQ.out.below hF.out)
  clear hv hg1
  obtain ⟨r_a0, r_a1, r_a2, r_a3, r_a4, r_a5, r_a6⟩ := bc7 K0.out
  have lt_a := K0.out.lt
  have lg0 : w.heap.size < g1 := by omega
  have zg : g1 ≤ v.heap.size := Nat.le_of_lt hgl
  have hS0 : ∀ b o, b < g1 → v.cell? ⟨b, o, none⟩ = v.cell? ⟨b, o, none⟩ := fun b o hb => rfl
  go_region_held_law (fun w' => ∀ b o, b < g1 → w'.cell? ⟨b, o, none⟩ = v.cell? ⟨b, o, none⟩) (repeat' (first | with_reducible assumption | with_reducible exact Nat.le_refl _ | with_reducible exact hS0 | with_reducible refine hl_drew ?_ | with_reducible refine hl_alloc ?_ ?_ _ | with_reducible refine hl_set7 ?_ ?_ _ _ _ _ _ _ _))
    (first
      | (go_at_call 80; refine (copyPairs_any A n c pl _ (by first | with_reducible exact HP0.out | with_reducible exact Sl.drew HP0.out | with_reducible exact (HP0.out.below H5)) hL.out hn HA.out).mono ?_; rintro e v4 ⟨A1, c1, rfl, Rx, b4⟩; have H4 : Below v.heap.size v v4 := (by first | with_reducible exact below_und b4 | with_reducible exact bthen H5 b4); have hS4 : ∀ b o, b < g1 → v4.cell? ⟨b, o, none⟩ = v.cell? ⟨b, o, none⟩ := fun b o hb => H4.cell (p := ⟨b, o, none⟩) (Nat.lt_trans hb hgl); have z4 : g1 ≤ v4.heap.size := Nat.le_trans zg H4.size; have K4 := K1.out.below H4; have xb0 := K4.cell 0; have xf0 := K4.frozen 0; have xb1 := K4.cell 1; have xf1 := K4.frozen 1; have xb2 := K4.cell 2; have xf2 := K4.frozen 2; have xb3 := K4.cell 3; have xf3 := K4.frozen 3; have xb4 := K4.cell 4; have xf4 := K4.frozen 4; have xb5 := K4.cell 5; have xf5 := K4.frozen 5; have xb6 := K4.cell 6; have xf6 := K4.frozen 6; have xl := K4.lt)
      | (go_at_call 81; refine (copyJobs_any B m d ql _ (by first | with_reducible exact HQ0.out | with_reducible exact Sl.drew HQ0.out | with_reducible exact (HQ0.out.below H4)) hR.out hm HB.out).mono ?_; rintro e v5 ⟨B1, d1, rfl, Ry, b5⟩; have H5 : Below v.heap.size v v5 := (by first | with_reducible exact below_und b5 | with_reducible exact bthen H4 b5); have hS5 : ∀ b o, b < g1 → v5.cell? ⟨b, o, none⟩ = v.cell? ⟨b, o, none⟩ := fun b o hb => H5.cell (p := ⟨b, o, none⟩) (Nat.lt_trans hb hgl); have z5 : g1 ≤ v5.heap.size := Nat.le_trans zg H5.size; have K5 := K1.out.below H5; have yb0 := K5.cell 0; have yf0 := K5.frozen 0; have yb1 := K5.cell 1; have yf1 := K5.frozen 1; have yb2 := K5.cell 2; have yf2 := K5.frozen 2; have yb3 := K5.cell 3; have yf3 := K5.frozen 3; have yb4 := K5.cell 4; have yf4 := K5.frozen 4; have yb5 := K5.cell 5; have yf5 := K5.frozen 5; have yb6 := K5.cell 6; have yf6 := K5.frozen 6; have yl := K5.lt))
  all_goals first
    | (
        have bb := H5
        have RX := (Rx.below b5).mono (show v.heap.size ≤ _ from Nat.le_refl _)
        have RY := Ry.mono (show v.heap.size ≤ _ from b4.size)
        have hap : ∀ a b, A1 = some a → B1 = some b → a.block ≠ b.block := fun a b ha hb => by
          have h1 := Rx.lt a ha
          have h2 := Ry.ge b hb
          omega
        have nX : ∀ a, A1 = some a → a.block ≠ g1 := fun a ha => Nat.ne_of_gt (Nat.lt_of_lt_of_le hgl (RX.ge a ha))
        have nY : ∀ a, B1 = some a → a.block ≠ g1 := fun a ha => Nat.ne_of_gt (Nat.lt_of_lt_of_le hgl (RY.ge a ha))
        have KF := Lib.hid (((((((((K1.out.below bb).set_ 0 (.int .i64 i0)).set_ 1 (.int .i64 t0)).set_ 2 (.slice A1 n c1)).set_ 3 (.slice B1 m d1)).set_ 4 (.int .i64 l0)).set_ 5 (.int .i64 l1)).set_ 6 (.int .i64 l2)))
        have FX := Lib.hid (((((((((RX.mono (show w.heap.size ≤ _ from hF.out.size)).far (p := ⟨g1, 0, none⟩) nX (.int .i64 i0)).far (p := ⟨g1, 1, none⟩) nX (.int .i64 t0)).far (p := ⟨g1, 2, none⟩) nX (.slice A1 n c1)).far (p := ⟨g1, 3, none⟩) nX (.slice B1 m d1)).far (p := ⟨g1, 4, none⟩) nX (.int .i64 l0)).far (p := ⟨g1, 5, none⟩) nX (.int .i64 l1)).far (p := ⟨g1, 6, none⟩) nX (.int .i64 l2)))
        have FY := Lib.hid (((((((((RY.mono (show w.heap.size ≤ _ from hF.out.size)).far (p := ⟨g1, 0, none⟩) nY (.int .i64 i0)).far (p := ⟨g1, 1, none⟩) nY (.int .i64 t0)).far (p := ⟨g1, 2, none⟩) nY (.slice A1 n c1)).far (p := ⟨g1, 3, none⟩) nY (.slice B1 m d1)).far (p := ⟨g1, 4, none⟩) nY (.int .i64 l0)).far (p := ⟨g1, 5, none⟩) nY (.int .i64 l1)).far (p := ⟨g1, 6, none⟩) nY (.int .i64 l2)))
        have FF := Lib.hid (((((((((bthen hF.out bb).setCell (p := ⟨g1, 0, none⟩) hlg (.int .i64 i0)).setCell (p := ⟨g1, 1, none⟩) hlg (.int .i64 t0)).setCell (p := ⟨g1, 2, none⟩) hlg (.slice A1 n c1)).setCell (p := ⟨g1, 3, none⟩) hlg (.slice B1 m d1)).setCell (p := ⟨g1, 4, none⟩) hlg (.int .i64 l0)).setCell (p := ⟨g1, 5, none⟩) hlg (.int .i64 l1)).setCell (p := ⟨g1, 6, none⟩) hlg (.int .i64 l2)))
        have HAP := Lib.hid hap
        clear bb RX RY hap nX nY b4 b5 Rx Ry hS0 hS4 hS5 z4 z5 K4 K5 H4 H5
        clear xb0 xf0 xb1 xf1 xb2 xf2 xb3 xf3 xb4 xf4 xb5 xf5 xb6 xf6 yb0 yf0 yb1 yf1 yb2 yf2 yb3 yf3 yb4 yf4 yb5 yf5 yb6 yf6 xl yl r_a0 r_a1 r_a2 r_a3 r_a4 r_a5 r_a6
        have q0 := KF.out.cell 0
        have q1 := KF.out.cell 1
        have q2 := KF.out.cell 2
        have q3 := KF.out.cell 3
        have q4 := KF.out.cell 4
        have q5 := KF.out.cell 5
        have q6 := KF.out.cell 6
        go_wp2
        refine bodyPost_ret (v := .agg #[.int .i64 i0, .int .i64 t0, .slice A1 n c1, .slice B1 m d1, .int .i64 l0, .int .i64 l1, .int .i64 l2]) (by simp [results, Tryz.results42, go_sem, *]) rfl ?_
        exact ⟨A1, c1, B1, d1, rfl, FX.out, FY.out, HAP.out, FF.out⟩)
    | (
        have bb := H4
        have RX := Rx.mono (show v.heap.size ≤ _ from b5.size)
        have RY := (Ry.below b4).mono (show v.heap.size ≤ _ from Nat.le_refl _)
        have hap : ∀ a b, A1 = some a → B1 = some b → a.block ≠ b.block := fun a b ha hb => by
          have h1 := Ry.lt b hb
          have h2 := Rx.ge a ha
          omega
        have nX : ∀ a, A1 = some a → a.block ≠ g1 := fun a ha => Nat.ne_of_gt (Nat.lt_of_lt_of_le hgl (RX.ge a ha))
        have nY : ∀ a, B1 = some a → a.block ≠ g1 := fun a ha => Nat.ne_of_gt (Nat.lt_of_lt_of_le hgl (RY.ge a ha))
        have KF := Lib.hid (((((((((K1.out.below bb).set_ 0 (.int .i64 i0)).set_ 1 (.int .i64 t0)).set_ 2 (.slice A1 n c1)).set_ 3 (.slice B1 m d1)).set_ 4 (.int .i64 l0)).set_ 5 (.int .i64 l1)).set_ 6 (.int .i64 l2)))
        have FX := Lib.hid (((((((((RX.mono (show w.heap.size ≤ _ from hF.out.size)).far (p := ⟨g1, 0, none⟩) nX (.int .i64 i0)).far (p := ⟨g1, 1, none⟩) nX (.int .i64 t0)).far (p := ⟨g1, 2, none⟩) nX (.slice A1 n c1)).far (p := ⟨g1, 3, none⟩) nX (.slice B1 m d1)).far (p := ⟨g1, 4, none⟩) nX (.int .i64 l0)).far (p := ⟨g1, 5, none⟩) nX (.int .i64 l1)).far (p := ⟨g1, 6, none⟩) nX (.int .i64 l2)))
        have FY := Lib.hid (((((((((RY.mono (show w.heap.size ≤ _ from hF.out.size)).far (p := ⟨g1, 0, none⟩) nY (.int .i64 i0)).far (p := ⟨g1, 1, none⟩) nY (.int .i64 t0)).far (p := ⟨g1, 2, none⟩) nY (.slice A1 n c1)).far (p := ⟨g1, 3, none⟩) nY (.slice B1 m d1)).far (p := ⟨g1, 4, none⟩) nY (.int .i64 l0)).far (p := ⟨g1, 5, none⟩) nY (.int .i64 l1)).far (p := ⟨g1, 6, none⟩) nY (.int .i64 l2)))
        have FF := Lib.hid (((((((((bthen hF.out bb).setCell (p := ⟨g1, 0, none⟩) hlg (.int .i64 i0)).setCell (p := ⟨g1, 1, none⟩) hlg (.int .i64 t0)).setCell (p := ⟨g1, 2, none⟩) hlg (.slice A1 n c1)).setCell (p := ⟨g1, 3, none⟩) hlg (.slice B1 m d1)).setCell (p := ⟨g1, 4, none⟩) hlg (.int .i64 l0)).setCell (p := ⟨g1, 5, none⟩) hlg (.int .i64 l1)).setCell (p := ⟨g1, 6, none⟩) hlg (.int .i64 l2)))
        have HAP := Lib.hid hap
        clear bb RX RY hap nX nY b4 b5 Rx Ry hS0 hS4 hS5 z4 z5 K4 K5 H4 H5
        clear xb0 xf0 xb1 xf1 xb2 xf2 xb3 xf3 xb4 xf4 xb5 xf5 xb6 xf6 yb0 yf0 yb1 yf1 yb2 yf2 yb3 yf3 yb4 yf4 yb5 yf5 yb6 yf6 xl yl r_a0 r_a1 r_a2 r_a3 r_a4 r_a5 r_a6
        have q0 := KF.out.cell 0
        have q1 := KF.out.cell 1
        have q2 := KF.out.cell 2
        have q3 := KF.out.cell 3
        have q4 := KF.out.cell 4
        have q5 := KF.out.cell 5
        have q6 := KF.out.cell 6
        go_wp2
        refine bodyPost_ret (v := .agg #[.int .i64 i0, .int .i64 t0, .slice A1 n c1, .slice B1 m d1, .int .i64 l0, .int .i64 l1, .int .i64 l2]) (by simp [results, Tryz.results42, go_sem, *]) rfl ?_
        exact ⟨A1, c1, B1, d1, rfl, FX.out, FY.out, HAP.out, FF.out⟩)
end Go.Proofs.YtokklkmibjpjnaaGreat
namespace Go.Proofs.YtokklkmibjpjnaaGreat
set_option linter.unusedSimpArgs false
set_option linter.unusedVariables false
attribute [local go_sem] n_lt2 n_lt3 n_lt4 n_le2 n_le3
open Go.RowKit
attribute [local go_sem] Ext.cell Ext.frozen

theorem putSet_row {w : World} {g lo n cap k : Nat} {cs : Array Value} {l : List Pr} {key v : Int} (K : Blk w g 106 cs) (hlo : lo ≤ g) (hnc : n ≤ cap) (hcm : cap ≤ maxLen) (hcs : cs.size = cap * 2) (hl : l.length = n) (hj : ∀ j, j < n * 2 → cs[j]? = some (.int .i64 ((PR l).getD j 0)))
    (hk : k < n) (he : (l.getD k default).k = key) : Row (w.setCell ⟨g, k * 2 + 1, none⟩ (.int .i64 v)) lo 106 2 (some ⟨g, 0, none⟩) n cap (PR (l.set k ⟨key, v⟩)) := by
  refine Row.of_blk (K.set_ _ _) hlo hnc hcm (by simpa using hcs) (by rw [PR_len]; simp; omega) (fun t ht => ?_)
  rw [PR_set_getD l k key v (by omega) he t (by omega)]
  by_cases h : t = k * 2 + 1
  · subst h
    rw [if_pos rfl, Array.getElem?_setIfInBounds_self_of_lt (by omega)]
  · rw [if_neg h, Array.getElem?_setIfInBounds_ne (by omega), hj t ht]
set_option maxRecDepth 100000 in
set_option maxHeartbeats 4000000 in
theorem put_walk (A : Option Addr) (n cap : Nat) (l : List Pr) (key v : Int) (w : World) (hS : Sl w 2 A n (PR l)) (hl : l.length = n) (hn : n ≤ maxLen) (hA : A = none → n = 0 ∧ cap = 0) :
    Calls Tryz.prog 98 #[.slice A n cap, .int .i64 key, .int .i64 v] w (RetPut w l key v) := by
  have c1 := pairsOk_any A n cap l w hS hl hn
  by_cases hpa : pairsB l = true
  · have h10 : n ≤ 10 := by have := pairsB_len hpa; omega
    rw [hpa] at c1
    have HL := Lib.hid hl
    have HS := Lib.hid hS
    by_cases hr : inB key 0 9 = true ∧ inB v 0 999 = true
    · have HR := Lib.hid (show putR l key v = (putL l key v, true) by unfold putR; rw [if_pos hpa, if_pos (by unfold rightB; rw [hr.1, hr.2]; rfl)])
      obtain ⟨hr1, hr2⟩ := hr
      clear hpa hl hS
      go_enter Tryz.func98, Tryz.ntmps98
      go_wp2_with fail
      refine c1.mono ?_
      rintro e w1 ⟨rfl, b1⟩
      go_wp2_with fail
      refine (copyPairs_any A n cap l w1 (HS.out.below b1) HL.out (by omega) hA).mono ?_
      rintro e w2 ⟨A2, cap2, rfl, R2, b2⟩
      have hbl := bthen b1 b2
      have R2 := R2.mono b1.size
      have hcp := R2.cap_le
      have hcn := hcp.1
      have hcm := hcp.2
      have hs2 := hbl.size
      have HC := Lib.hid hcm
      unfold maxLen at hcm
      clear b1 b2 c1 hcp
      go_wp2_with (first | (go_at_call 88; refine (keyOk_any _ _).mono ?_; rintro e w' ⟨rfl, rfl⟩) | (go_at_call 89; refine (valueOk_any _ _).mono ?_; rintro e w' ⟨rfl, rfl⟩))
      go_loop [9] (fun i => ∃ k : Nat, k ≤ n ∧ i = .int .i64 (k : Nat) ∧ Hid (∀ j, j < k → (l.getD j default).k < key)) (fun i => n - (intOf i).toNat)
      case atStart => exact ⟨0, Nat.zero_le _, rfl, fun j hj => absurd hj (by omega)⟩
      case round =>
        obtain ⟨k, hk, rfl, hall⟩ := hrel
        by_cases hlt : k < n
        · obtain ⟨g, cs, rfl, hlg, K, _, _, hcs, hj⟩ := R2.blk (by omega)
          have q0 : (w2.cell? ⟨g, k * 2, none⟩) = some (.int .i64 (l.getD k default).k) := by rw [K.cell, hj _ (by omega), PR_get0 l k (by have := HL.out; omega)]
          have HJ := Lib.hid (And.intro hcs (And.intro hlg hj))
          have HK := Lib.hid K
          have hlt' : (k : Int) < (n : Int) := by omega
          generalize hx : (l.getD k default).k = x at q0
          have HX := Lib.hid hx
          clear hx hj hcs K
          by_cases h1 : x < key
          · go_wp2
            exact ⟨⟨k + 1, by omega, by go_num, Lib.hid (fun j hjk => by
              rcases Nat.lt_or_ge j k with h | h
              · exact hall.out j h
              · obtain rfl : j = k := by omega
                rw [HX.out]; exact h1)⟩, by simp [intOf]; omega⟩
          · by_cases h2 : x = key
            · have HE := Lib.hid (putL_set k l key v (by have := HL.out; omega) hall.out (by rw [HX.out, h2]))
              have hcell : ∃ c, w2.cell? ⟨g, k * 2 + 1, none⟩ = some c := HK.out.has (by have := HJ.out.1; omega)
              obtain ⟨c, hc1⟩ := hcell
              have hf := HK.out.frozen (k * 2 + 1)
              subst h2
              go_wp2
              refine bodyPost_ret (v := .tuple #[.slice (some ⟨g, 0, none⟩) n cap2, .bool true]) (by simp [results, Tryz.results98, go_sem, *]) rfl ?_
              refine retPut (HR.out.trans (by rw [HE.out])) (by simpa using HL.out.symm) (putSet_row HK.out HJ.out.2.1 hcn HC.out HJ.out.1 HL.out HJ.out.2.2 hlt HX.out) (hbl.setCell HJ.out.2.1 _)
            · have h2' : (x == key) = false := by simpa using h2
              have HE := Lib.hid (putL_ins k l key v (by have := HL.out; omega) hall.out (fun _ => by rw [HX.out]; omega))
              go_wp2_with fail
              refine calls_named ?_
              rintro wq hwq
              have Rq : Row wq w.heap.size 106 2 (some ⟨g, 0, none⟩) n cap2 (PR l) := by rw [hwq]; exact World.ownsRow.alloc R2 _
              have V : Blk wq w2.heap.size 106 (ints [key, v]).toArray := by rw [hwq]; exact Blk.new _ _ _
              have fq : Below w.heap.size w wq := by rw [hwq]; exact hbl.alloc hs2 _
              have hgl := HK.out.lt
              clear hwq
              refine (insertPair_any w.heap.size (some ⟨g, 0, none⟩) n cap2 k w2.heap.size (PR l) [key, v] wq Rq fq.size (by omega) hk rfl V (fun a ha => by obtain rfl := Option.some.inj ha; exact Nat.ne_of_lt hgl)).mono ?_
              rintro e w4 ⟨A4, c4, rfl, R4, b4⟩
              go_wp2
              refine bodyPost_ret (v := .tuple #[.slice A4 (n + 1) c4, .bool true]) (by simp [results, Tryz.results98, go_sem, *]) rfl ?_
              rw [← PR_ins] at R4
              refine retPut (HR.out.trans (by rw [HE.out])) ?_ R4 (fq.trans b4)
              have := HL.out
              simp; omega
        · have hkn : k = n := by omega
          subst hkn
          have HE := Lib.hid (putL_ins k l key v (by have := HL.out; omega) hall.out (fun h => absurd h (by have := HL.out; omega)))
          have hltA := R2.lt
          go_wp2_with fail
          refine calls_named ?_
          rintro wq hwq
          have Rq : Row wq w.heap.size 106 2 A2 k cap2 (PR l) := by rw [hwq]; exact World.ownsRow.alloc R2 _
          have V : Blk wq w2.heap.size 106 (ints [key, v]).toArray := by rw [hwq]; exact Blk.new _ _ _
          have fq : Below w.heap.size w wq := by rw [hwq]; exact hbl.alloc hs2 _
          clear hwq
          refine (insertPair_any w.heap.size A2 k cap2 k w2.heap.size (PR l) [key, v] wq Rq fq.size (by omega) hk rfl V (fun a ha => Nat.ne_of_lt (hltA a ha))).mono ?_
          rintro e w4 ⟨A4, c4, rfl, R4, b4⟩
          go_wp2
          refine bodyPost_ret (v := .tuple #[.slice A4 (k + 1) c4, .bool true]) (by simp [results, Tryz.results98, go_sem, *]) rfl ?_
          rw [← PR_ins] at R4
          refine retPut (HR.out.trans (by rw [HE.out])) ?_ R4 (fq.trans b4)
          have := HL.out
          simp; omega
    · have HR := Lib.hid (show putR l key v = (l, false) by
        unfold putR
        rw [if_pos hpa, if_neg]
        intro h
        unfold rightB at h
        simp only [Bool.and_eq_true] at h
        exact hr h)
      have hcs : inB key 0 9 = false ∨ (inB key 0 9 = true ∧ inB v 0 999 = false) := by
        by_cases h1 : inB key 0 9 = true
        · exact .inr ⟨h1, by rw [← Bool.not_eq_true]; exact fun h2 => hr ⟨h1, h2⟩⟩
        · exact .inl (by simpa using h1)
      clear hpa hl hS hr
      rcases hcs with hr1 | ⟨hr1, hr2⟩
      all_goals
        go_enter Tryz.func98, Tryz.ntmps98
        go_wp2_with fail
        refine c1.mono ?_
        rintro e w1 ⟨rfl, b1⟩
        go_wp2_with fail
        refine (copyPairs_any A n cap l w1 (HS.out.below b1) HL.out (by omega) hA).mono ?_
        rintro e w2 ⟨A2, cap2, rfl, R2, b2⟩
        go_wp2_with (first | (go_at_call 88; refine (keyOk_any _ _).mono ?_; rintro e w' ⟨rfl, rfl⟩) | (go_at_call 89; refine (valueOk_any _ _).mono ?_; rintro e w' ⟨rfl, rfl⟩))
        refine bodyPost_ret (v := .tuple #[.slice A2 n cap2, .bool false]) (by simp [results, Tryz.results98, go_sem, *]) rfl ?_
        exact retPut HR.out HL.out.symm (R2.mono b1.size) (bthen b1 b2)
  · have hpa' : pairsB l = false := by simpa using hpa
    have HR := Lib.hid (show putR l key v = ([], false) by unfold putR; rw [if_neg hpa])
    rw [hpa'] at c1
    go_enter Tryz.func98, Tryz.ntmps98
    go_wp2_with fail
    refine c1.mono ?_
    rintro e w1 ⟨rfl, b1⟩
    go_wp2
    refine bodyPost_ret (v := .tuple #[.slice none 0 0, .bool false]) (by simp [results, Tryz.results98, go_sem, *]) rfl ?_
    exact retPut HR.out rfl (Row.nil _ _ _ _) b1
theorem putRI_any (A : Option Addr) (n cap : Nat) (l : List Pr) (key v : Int) (w : World) (hS : Sl w 2 A n (PR l)) (hl : l.length = n) (hn : n ≤ maxLen) (hA : A = none → n = 0 ∧ cap = 0) :
    Calls Tryz.prog 98 #[.slice A n cap, .int .i64 key, .int .i64 v] w (RetRowB w 106 2 (putR l key v).1.length (PR (putR l key v).1) (putR l key v).2) := put_walk A n cap l key v w hS hl hn hA
theorem putRS_any (A : Option Addr) (n cap : Nat) (l : List Pr) (key v : Int) (w : World) (hS : Sl w 2 A n (PR l)) (hl : l.length = n) (hn : n ≤ maxLen) (hA : A = none → n = 0 ∧ cap = 0) :
    Calls Tryz.prog 29 #[.slice A n cap, .int .i64 key, .int .i64 v] w (RetRowB w 106 2 (putR l key v).1.length (PR (putR l key v).1) (putR l key v).2) := specPut_any A n cap l key v w hS hl hn hA
end Go.Proofs.YtokklkmibjpjnaaGreat
namespace Go.Proofs.YtokklkmibjpjnaaGreat
set_option linter.unusedSimpArgs false
set_option linter.unusedVariables false
attribute [local go_sem] n_lt2 n_lt3 n_lt4 n_le2 n_le3
open Go.RowKit

/-- What Insert leaves: the row with the new element. -/
def InsResJob (lo n i : Nat) (zs vs : List Int) (w : World) (e : Ending) (w' : World) : Prop := ∃ A' cap', e = .returned (.slice A' (n + 1) cap') ∧ Row w' lo 71 5 A' (n + 1) cap' (zs.take (i * 5) ++ vs ++ zs.drop (i * 5)) ∧ Below lo w w'
theorem zeroI_Job (w : World) : (zeroValue 71).run Tryz.prog w = .ok (.agg #[.int .i64 0, .int .i64 0, .int .i64 0, .int .i64 0, .int .i64 0]) w := by kernel_rfl
theorem sizeI_Job (w : World) : (Go.sizeOf 71).run Tryz.prog w = .ok 5 w := by kernel_rfl
set_option maxRecDepth 100000 in
set_option maxHeartbeats 2000000 in
theorem insertJob_end (lo : Nat) (A : Option Addr) (n cap vb : Nat) (zs vs : List Int) (w : World) (R : Row w lo 71 5 A n cap zs) (hlo : lo ≤ w.heap.size) (hn : n ≤ 1000) (hvl : vs.length = 5) (V : Blk w vb 71 (ints vs).toArray) :
    Calls Tryz.prog 120 #[.slice A n cap, .int .i64 (n : Nat), .slice (some ⟨vb, 0, none⟩) 1 1] w (InsResJob lo n n zs vs w) := by
  have hzl := R.len
  have e1 : zs.take (n * 5) ++ vs ++ zs.drop (n * 5) = zs ++ vs := by rw [List.take_of_length_le (by omega), List.drop_eq_nil_of_le (by omega), List.append_nil]
  have hnw : ∀ j u, (ints vs)[j]? = some u → w.cell? ((⟨vb, 0, none⟩ : Addr).add j) = some u := fun j u hu => by
    have ha : (⟨vb, 0, none⟩ : Addr).add j = ⟨vb, j, none⟩ := by unfold Addr.add; split <;> simp_all
    rw [ha, V.cell]
    simpa using hu
  have hcp := R.cap_le
  have hcm : cap ≤ 9223372036854775807 := by have := hcp.2; unfold maxLen at this; omega
  have hcn := hcp.1
  have H1 := Lib.hid hnw
  have H2 := Lib.hid e1
  clear hnw e1 V hcp
  go_enter Tryz.func120, Tryz.ntmps120
  go_wp2_with (at_builtin; refine wpList_append_row rfl _ _ 34 rfl 71 (.agg #[.int .i64 0, .int .i64 0, .int .i64 0, .int .i64 0, .int .i64 0]) 5 40 Tryz.underlying34 info_Job (by first | kernel_rfl | simp [Value.cells]) (by decide) lo A n cap zs rfl R ⟨vb, 0, none⟩ 1 1 vs rfl (by omega) H1.out (by unfold maxLen; omega) (by omega) hlo ?_; intro A5 c5 w5 R5 B5)
  all_goals (go_ret; exact ⟨A5, c5, rfl, by rw [H2.out]; exact R5, B5⟩)
set_option maxRecDepth 100000 in
set_option maxHeartbeats 4000000 in
theorem insertJob_shift (lo g n cap i vb : Nat) (cs : Array Value) (zs vs : List Int) (w : World) (K : Blk w g 71 cs) (hlo : lo ≤ g) (hcs : cs.size = cap * 5) (hzl : zs.length = n * 5) (hj : ∀ j, j < n * 5 → cs[j]? = some (.int .i64 (zs.getD j 0))) (hcm : cap ≤ maxLen)
    (hi : i < n) (hroom : n + 1 ≤ cap) (hvl : vs.length = 5) (V : Blk w vb 71 (ints vs).toArray) (hvb : vb ≠ g) :
    Calls Tryz.prog 120 #[.slice (some ⟨g, 0, none⟩) n cap, .int .i64 (i : Nat), .slice (some ⟨vb, 0, none⟩) 1 1] w (InsResJob lo n i zs vs w) := by
  unfold maxLen at hcm
  have hsz : (Tryz.prog.info? 71).map (·.size) = some 5 := by kernel_rfl
  have hov : ∀ a lb cb, a = (⟨g, (i + 1) * 5, none⟩ : Addr) → (callFunc 133 #[.slice (some ⟨vb, 0, none⟩) 1 1, .slice (some a) lb cb]).run Tryz.prog w = .ok (.value (.bool false)) w := fun a lb cb ha => by
    subst ha
    rw [run_callFunc_extern Tryz.func133 (by kernel_rfl) (by kernel_rfl) (by kernel_rfl) (e := Extern.SlicesOverlaps.overlaps #[34, 34] #[4]) (by kernel_rfl),
      Lib.run_overlaps_apart w 34 4 71 Tryz.underlying34 5 sizeI_Job ⟨vb, 0, none⟩ ⟨g, (i + 1) * 5, none⟩ 1 1 lb cb hvb _ _ _ _ V.shape K.shape (by omega) (V.frozen _) (V.frozen _)]
    rfl
  have hdl : (ints (zs.drop (i * 5))).length = (n - i) * 5 := by rw [ints_length, List.length_drop]; omega
  have hcp1 : ∀ ty dc sc, (Builtin.copy_ #[34, 34] ty #[.slice (some ⟨g, (i + 1) * 5, none⟩) (n - i) dc, .slice (some ⟨g, i * 5, none⟩) (n + 1 - i) sc]).run Tryz.prog w.drew = .ok (goInt ((n - i : Nat) : Int)) (w.drew.setCells g ((i + 1) * 5) (ints (zs.drop (i * 5)))) := fun ty dc sc =>
    run_copy_flat w.drew _ _ ty 71 5 (n - i) g ((i + 1) * 5) (n - i) dc ⟨g, i * 5, none⟩ (n + 1 - i) sc _ Tryz.underlying34 hsz (by simp only [Nat.min_def]; split <;> omega) hdl
      (fun j v hjv => by
        have ha : (⟨g, i * 5, none⟩ : Addr).add j = ⟨g, i * 5 + j, none⟩ := by unfold Addr.add; split <;> simp_all
        have hjl : j < (zs.drop (i * 5)).length := by
          have := (List.getElem?_eq_some_iff.1 hjv).1
          rwa [ints_length] at this
        rw [ints_get _ j hjl] at hjv
        rw [List.length_drop] at hjl
        rw [ha, K.drew.cell, hj _ (by omega), ← hjv, getD_drop])
      (fun j hj' => by rw [hdl] at hj'; obtain ⟨c, hc⟩ := K.drew.has (i := (i + 1) * 5 + j) (by omega); rw [hc]; rfl) (fun j _ => K.drew.frozen _) (ints_oneCell' _)
  obtain ⟨W1, hW1⟩ : ∃ W1, W1 = w.drew.setCells g ((i + 1) * 5) (ints (zs.drop (i * 5))) := ⟨_, rfl⟩
  rw [← hW1] at hcp1
  have K1 : Blk W1 g 71 (over cs ((i + 1) * 5) (ints (zs.drop (i * 5)))) := by rw [hW1]; exact Blk.over _ _ _ _ K.drew
  have V1 : Blk W1 vb 71 (ints vs).toArray := by rw [hW1]; exact (heap_setCells hvb _ _ _).trans V
  have b1 : Below lo w W1 := by rw [hW1]; exact below_setCells hlo _ _ _ (Below.drew (Below.refl _ _))
  have hs1 : (over cs ((i + 1) * 5) (ints (zs.drop (i * 5)))).size = cap * 5 := by rw [over_size, hcs]
  have hcp2 : ∀ ty dc, (Builtin.copy_ #[34, 34] ty #[.slice (some ⟨g, i * 5, none⟩) (n + 1 - i) dc, .slice (some ⟨vb, 0, none⟩) 1 1]).run Tryz.prog W1 = .ok (goInt ((1 : Nat) : Int)) (W1.setCells g (i * 5) (ints vs)) := fun ty dc =>
    run_copy_flat W1 _ _ ty 71 5 1 g (i * 5) (n + 1 - i) dc ⟨vb, 0, none⟩ 1 1 _ Tryz.underlying34 hsz (by simp only [Nat.min_def]; split <;> omega) (by rw [ints_length]; omega)
      (fun j v hjv => by
        have ha : (⟨vb, 0, none⟩ : Addr).add j = ⟨vb, j, none⟩ := by unfold Addr.add; split <;> simp_all
        rw [ha, V1.cell]
        simpa using hjv)
      (fun j hj' => by rw [ints_length] at hj'; obtain ⟨c, hc⟩ := K1.has (i := i * 5 + j) (by omega); rw [hc]; rfl) (fun j _ => K1.frozen _) (ints_oneCell' _)
  have K2 : Blk (W1.setCells g (i * 5) (ints vs)) g 71 (over (over cs ((i + 1) * 5) (ints (zs.drop (i * 5)))) (i * 5) (ints vs)) := Blk.over _ _ _ _ K1
  have b2 : Below lo w (W1.setCells g (i * 5) (ints vs)) := below_setCells hlo _ _ _ b1
  have hfin : Row (W1.setCells g (i * 5) (ints vs)) lo 71 5 (some ⟨g, 0, none⟩) (n + 1) cap (zs.take (i * 5) ++ vs ++ zs.drop (i * 5)) := by
    refine Row.of_blk K2 hlo hroom (by unfold maxLen; omega) (by rw [over_size, hs1]) (by simp; omega) (fun t ht => ?_)
    rw [ins_getD _ _ _ _ (by omega)]
    split
    · rename_i h1
      rw [over_out _ _ _ _ (.inl h1), over_out _ _ _ _ (.inl (by omega)), hj t (by omega)]
    · split
      · rename_i h1 h2
        rw [show t = i * 5 + (t - i * 5) by omega, over_in _ _ _ _ (by rw [hs1, ints_length]; omega) (by rw [ints_length]; omega), ints_get _ _ (by omega)]
        congr 3
        omega
      · rename_i h1 h2
        rw [over_out _ _ _ _ (.inr (by rw [ints_length]; omega)), show t = (i + 1) * 5 + (t - (i + 1) * 5) by omega, over_in _ _ _ _ (by rw [hdl]; omega) (by rw [hdl]; omega), ints_get _ _ (by rw [List.length_drop]; omega), getD_drop]
        congr 3
        omega
  have HF := Lib.hid (And.intro hfin b2)
  have HO := Lib.hid hov
  have hz2 : ¬ ((i : Int) = (n : Int)) := by omega
  have hb1 : (0 : Int) ≤ (i : Int) + 1 := by omega
  have hin : i ≤ n := by omega
  have htn : ((i : Int) + 1).toNat = i + 1 := by omega
  have hw1 : IntKind.i64.wrap ((i : Int) + 1) = (i : Int) + 1 := by simp [IntKind.wrap, IntKind.bits, IntKind.signed]; omega
  have hb2 : ¬ (cap = i + 1) := by omega
  have hb3 : (i : Int) ≤ (n : Int) + 1 := by omega
  have hb4 : ¬ (cap = i) := by omega
  have hov' := hov _ (n - i) (cap - (i + 1)) rfl
  clear K V K1 V1 b1 K2 b2 hfin hW1 hj hov hdl hs1
  go_enter Tryz.func120, Tryz.ntmps120
  go_wp2_with (simp only [hov'])
  go_region_law (refine step_copy_runI rfl _ _ 34 34 rfl _ _ (by simp [Act.eval, Act.put]) (by simp [Act.eval, Act.put]) (hcp1 _ _ _) ?_)
  go_wp2_with (at_builtin; refine wpList_copy_runI _ rfl _ _ 34 34 rfl _ _ rfl rfl (hcp2 _ _) ?_)
  go_ret
  exact ⟨_, _, rfl, HF.out.1, HF.out.2⟩
set_option maxRecDepth 100000 in
set_option maxHeartbeats 4000000 in
theorem insertJob_grow (lo g n i vb : Nat) (cs : Array Value) (zs vs : List Int) (w : World) (K : Blk w g 71 cs) (hlo : lo ≤ g) (hcs : cs.size = n * 5) (hzl : zs.length = n * 5) (hj : ∀ j, j < n * 5 → cs[j]? = some (.int .i64 (zs.getD j 0)))
    (hi : i < n) (hn : n ≤ 1000) (hvl : vs.length = 5) (V : Blk w vb 71 (ints vs).toArray) :
    Calls Tryz.prog 120 #[.slice (some ⟨g, 0, none⟩) n n, .int .i64 (i : Nat), .slice (some ⟨vb, 0, none⟩) 1 1] w (InsResJob lo n i zs vs w) := by
  obtain ⟨i0, hi0, hz0, hzs, hzb⟩ := info_parts info_Job
  have hsz : (Tryz.prog.info? 71).map (·.size) = some 5 := by kernel_rfl
  have hz2 : ¬ ((i : Int) = (n : Int)) := by omega
  have hz3 : (n : Int) < (n : Int) + 1 := by omega
  have hkk : (n : Int) + 1 - (i : Int) = ((n + 1 - i : Nat) : Int) := by omega
  have hik : i + (n + 1 - i) = n + 1 := by omega
  have hgl := K.lt
  have hvw := V.lt
  have hold : (Builtin.firstCells i0.size i (.slice (some ⟨g, 0, none⟩) i n)).run Tryz.prog w.drew = .ok (ints (zs.take (i * 5))).toArray w.drew := by
    rw [hzs]
    refine run_firstCells_some w.drew 5 i ⟨g, 0, none⟩ i n _ (by rw [ints_length, List.length_take]; omega) (fun j v hjv => ?_)
    have ha : (⟨g, 0, none⟩ : Addr).add j = ⟨g, j, none⟩ := by unfold Addr.add; split <;> simp_all
    have hjl : j < (zs.take (i * 5)).length := by
      have := (List.getElem?_eq_some_iff.1 hjv).1
      rwa [ints_length] at this
    rw [ints_get _ j hjl] at hjv
    rw [List.length_take] at hjl
    rw [ha, K.drew.cell, hj _ (by omega), ← hjv, getD_take _ _ _ (by omega)]
  obtain ⟨G, hG⟩ : ∃ G, G = grownCap w (n + 1) n 71 := ⟨_, rfl⟩
  obtain ⟨ROW, hROW⟩ : ∃ ROW : Array Value, ROW = (ints (zs.take (i * 5))).toArray ++ Builtin.zeroCells ((.agg #[.int .i64 0, .int .i64 0, .int .i64 0, .int .i64 0, .int .i64 0]) : Value).cells (n + 1 - i) ++ Builtin.zeroCells ((.agg #[.int .i64 0, .int .i64 0, .int .i64 0, .int .i64 0, .int .i64 0]) : Value).cells (G - (n + 1)) := ⟨_, rfl⟩
  have hrz : ∀ ty, (Builtin.append_ #[34, 3] ty #[.slice (some ⟨g, 0, none⟩) i n, .int .i64 ((n : Int) + 1 - (i : Int))]).run Tryz.prog w =
      .ok (.slice (some ⟨w.heap.size, 0, none⟩) (n + 1) G) (w.drew.alloc (.cells ROW 71)) := fun ty => by
    have h := Lib.run_append_grow_zeros w 34 3 ty 71 i0 _ .i64 .i64 Tryz.underlying34 Tryz.underlying3 hi0 hz0 (some ⟨g, 0, none⟩) i n _ hold (n + 1 - i) (by omega) (by omega) (by omega) (by omega) (by rw [hzb]; omega) (by rw [hzb, hik]; exact growslice_fits (by omega) (by omega))
    rw [hik, ← hG] at h
    rw [hkk, hROW]
    exact h
  have hGn : n + 1 ≤ G := by rw [hG]; exact grownCap_ge w _ _ _
  have hGm : G ≤ maxLen := by
    rw [hG]
    exact grownCap_le_maxLen w (n + 1) n 71 (by unfold maxLen; omega)
  have hzc : ∀ k, (Builtin.zeroCells ((.agg #[.int .i64 0, .int .i64 0, .int .i64 0, .int .i64 0, .int .i64 0]) : Value).cells k).toList = zeros (k * 5) := fun k => zeroCells_flat (z := (.agg #[.int .i64 0, .int .i64 0, .int .i64 0, .int .i64 0, .int .i64 0])) (s := 5) rfl k
  have hzsz : ∀ k, (Builtin.zeroCells ((.agg #[.int .i64 0, .int .i64 0, .int .i64 0, .int .i64 0, .int .i64 0]) : Value).cells k).size = k * 5 := fun k => by rw [← Array.length_toList, hzc, zeros_length]
  have hRs : ROW.size = G * 5 := by
    rw [hROW, Array.size_append, Array.size_append, hzsz, hzsz]
    simp only [List.size_toArray, ints_length, List.length_take]
    omega
  have hRj : ∀ t, t < i * 5 → ROW[t]? = some (.int .i64 (zs.getD t 0)) := fun t ht => by
    rw [hROW, Array.getElem?_append_left (by rw [Array.size_append, hzsz]; simp only [List.size_toArray, ints_length, List.length_take]; omega), Array.getElem?_append_left (by simp only [List.size_toArray, ints_length, List.length_take]; omega), List.getElem?_toArray, ints_get _ _ (by rw [List.length_take]; omega), getD_take _ _ _ ht]
  have hlw : lo ≤ w.heap.size := by omega
  -- the three worlds
  obtain ⟨W1, hW1⟩ : ∃ W1, W1 = w.drew.alloc (.cells ROW 71) := ⟨_, rfl⟩
  rw [← hW1] at hrz
  have N1 : Blk W1 w.heap.size 71 ROW := by rw [hW1]; exact Blk.new w.drew _ _
  have K1 : Blk W1 g 71 cs := by rw [hW1]; exact K.drew.alloc _
  have V1 : Blk W1 vb 71 (ints vs).toArray := by rw [hW1]; exact V.drew.alloc _
  have b1 : Below lo w W1 := by rw [hW1]; exact Below.alloc (Below.drew (Below.refl _ _)) hlw _
  have hcpA : ∀ ty dc, (Builtin.copy_ #[34, 34] ty #[.slice (some ⟨w.heap.size, i * 5, none⟩) (n + 1 - i) dc, .slice (some ⟨vb, 0, none⟩) 1 1]).run Tryz.prog W1 = .ok (goInt ((1 : Nat) : Int)) (W1.setCells w.heap.size (i * 5) (ints vs)) := fun ty dc =>
    run_copy_flat W1 _ _ ty 71 5 1 w.heap.size (i * 5) (n + 1 - i) dc ⟨vb, 0, none⟩ 1 1 _ Tryz.underlying34 hsz (by simp only [Nat.min_def]; split <;> omega) (by rw [ints_length]; omega)
      (fun j v hjv => by
        have ha : (⟨vb, 0, none⟩ : Addr).add j = ⟨vb, j, none⟩ := by unfold Addr.add; split <;> simp_all
        rw [ha, V1.cell]
        simpa using hjv)
      (fun j hj' => by rw [ints_length] at hj'; obtain ⟨c, hc⟩ := N1.has (i := i * 5 + j) (by omega); rw [hc]; rfl) (fun j _ => N1.frozen _) (ints_oneCell' _)
  obtain ⟨W2, hW2⟩ : ∃ W2, W2 = W1.setCells w.heap.size (i * 5) (ints vs) := ⟨_, rfl⟩
  rw [← hW2] at hcpA
  have N2 : Blk W2 w.heap.size 71 (over ROW (i * 5) (ints vs)) := by rw [hW2]; exact Blk.over _ _ _ _ N1
  have K2 : Blk W2 g 71 cs := by rw [hW2]; exact (heap_setCells (by omega) _ _ _).trans K1
  have b2 : Below lo w W2 := by rw [hW2]; exact below_setCells hlw _ _ _ b1
  have hs2 : (over ROW (i * 5) (ints vs)).size = G * 5 := by rw [over_size, hRs]
  have hdl : (ints (zs.drop (i * 5))).length = (n - i) * 5 := by rw [ints_length, List.length_drop]; omega
  have hcpB : ∀ ty dc sc, (Builtin.copy_ #[34, 34] ty #[.slice (some ⟨w.heap.size, (i + 1) * 5, none⟩) (n - i) dc, .slice (some ⟨g, i * 5, none⟩) (n - i) sc]).run Tryz.prog W2.drew = .ok (goInt ((n - i : Nat) : Int)) (W2.drew.setCells w.heap.size ((i + 1) * 5) (ints (zs.drop (i * 5)))) := fun ty dc sc =>
    run_copy_flat W2.drew _ _ ty 71 5 (n - i) w.heap.size ((i + 1) * 5) (n - i) dc ⟨g, i * 5, none⟩ (n - i) sc _ Tryz.underlying34 hsz (by simp only [Nat.min_def]; split <;> omega) hdl
      (fun j v hjv => by
        have ha : (⟨g, i * 5, none⟩ : Addr).add j = ⟨g, i * 5 + j, none⟩ := by unfold Addr.add; split <;> simp_all
        have hjl : j < (zs.drop (i * 5)).length := by
          have := (List.getElem?_eq_some_iff.1 hjv).1
          rwa [ints_length] at this
        rw [ints_get _ j hjl] at hjv
        rw [List.length_drop] at hjl
        rw [ha, K2.drew.cell, hj _ (by omega), ← hjv, getD_drop])
      (fun j hj' => by rw [hdl] at hj'; obtain ⟨c, hc⟩ := N2.drew.has (i := (i + 1) * 5 + j) (by omega); rw [hc]; rfl) (fun j _ => N2.drew.frozen _) (ints_oneCell' _)
  obtain ⟨W3, hW3⟩ : ∃ W3, W3 = W2.drew.setCells w.heap.size ((i + 1) * 5) (ints (zs.drop (i * 5))) := ⟨_, rfl⟩
  rw [← hW3] at hcpB
  have N3 : Blk W3 w.heap.size 71 (over (over ROW (i * 5) (ints vs)) ((i + 1) * 5) (ints (zs.drop (i * 5)))) := by rw [hW3]; exact Blk.over _ _ _ _ N2.drew
  have b3 : Below lo w W3 := by rw [hW3]; exact below_setCells hlw _ _ _ (Below.drew b2)
  have hfin : Row W3 lo 71 5 (some ⟨w.heap.size, 0, none⟩) (n + 1) G (zs.take (i * 5) ++ vs ++ zs.drop (i * 5)) := by
    refine Row.of_blk N3 hlw hGn hGm (by rw [over_size, hs2]) (by simp; omega) (fun t ht => ?_)
    have hil : i * 5 ≤ n * 5 := Nat.mul_le_mul_right _ (by omega)
    have hGs : (n + 1) * 5 ≤ G * 5 := Nat.mul_le_mul_right _ hGn
    rw [ins_getD _ _ _ _ (by omega)]
    split
    · rename_i h1
      rw [over_out _ _ _ _ (.inl (by omega)), over_out _ _ _ _ (.inl h1), hRj t h1]
    · split
      · rename_i h1 h2
        rw [over_out _ _ _ _ (.inl (by omega)), show t = i * 5 + (t - i * 5) by omega, over_in _ _ _ _ (by rw [hRs, ints_length]; omega) (by rw [ints_length]; omega), ints_get _ _ (by omega)]
        congr 3
        omega
      · rename_i h1 h2
        rw [show t = (i + 1) * 5 + (t - (i + 1) * 5) by omega, over_in _ _ _ _ (by rw [hs2, hdl]; omega) (by rw [hdl]; omega), ints_get _ _ (by rw [List.length_drop]; omega), getD_drop]
        congr 3
        omega
  have HF := Lib.hid (And.intro hfin b3)
  unfold maxLen at hGm
  have hGi : ¬ (G = i) := by omega
  have hGim : ¬ (G = i + 1) := by omega
  have hci : ¬ (n = i) := by omega
  have hw1 : IntKind.i64.wrap ((i : Int) + 1) = (i : Int) + 1 := by simp [IntKind.wrap, IntKind.bits, IntKind.signed]; omega
  have hb1 : (0 : Int) ≤ (i : Int) + 1 := by omega
  have hin : i ≤ n := by omega
  have htn : ((i : Int) + 1).toNat = i + 1 := by omega
  have hb3 : (i : Int) ≤ (n : Int) := by omega
  clear K V N1 K1 V1 b1 N2 K2 b2 N3 b3 hfin hW1 hW2 hW3 hj hdl hs2 hRj hRs hzsz hzc hROW hG hold hkk hik
  go_enter Tryz.func120, Tryz.ntmps120
  go_wp2_with (first
    | (at_builtin; refine Lib.wpList_append_run _ rfl _ _ _ _ rfl _ _ rfl rfl _ _ (hrz _) ?_)
    | (at_builtin; refine wpList_copy_runI _ rfl _ _ 34 34 rfl _ _ rfl rfl (hcpA _ _) ?_))
  go_region_law (refine step_copy_runI rfl _ _ 34 34 rfl _ _ (by simp [Act.eval, Act.put]) (by simp [Act.eval, Act.put]) (hcpB _ _ _) ?_)
  go_wp2
  go_ret
  exact ⟨_, _, rfl, HF.out.1, HF.out.2⟩
/-- All three roads. -/
theorem insertJob_any (lo : Nat) (A : Option Addr) (n cap i vb : Nat) (zs vs : List Int) (w : World) (R : Row w lo 71 5 A n cap zs) (hlo : lo ≤ w.heap.size) (hn : n ≤ 1000) (hi : i ≤ n) (hvl : vs.length = 5) (V : Blk w vb 71 (ints vs).toArray) (hvb : ∀ a, A = some a → a.block ≠ vb) :
    Calls Tryz.prog 120 #[.slice A n cap, .int .i64 (i : Nat), .slice (some ⟨vb, 0, none⟩) 1 1] w (InsResJob lo n i zs vs w) := by
  by_cases hin : i = n
  · subst hin
    exact insertJob_end lo A i cap vb zs vs w R hlo hn hvl V
  · obtain ⟨g, cs, rfl, hlg, K, hnc, hcm, hcs, hj⟩ := R.blk (by omega)
    by_cases hroom : n + 1 ≤ cap
    · exact insertJob_shift lo g n cap i vb cs zs vs w K hlg hcs R.len hj hcm (by omega) hroom hvl V (Ne.symm (hvb _ rfl))
    · obtain rfl : cap = n := by omega
      exact insertJob_grow lo g cap i vb cs zs vs w K hlg hcs R.len hj (by omega) hn hvl V
end Go.Proofs.YtokklkmibjpjnaaGreat
namespace Go.Proofs.YtokklkmibjpjnaaGreat
set_option linter.unusedSimpArgs false
set_option linter.unusedVariables false
attribute [local go_sem] n_lt2 n_lt3 n_lt4 n_le2 n_le3
open Go.RowKit
attribute [local go_sem] Ext.cell Ext.frozen

theorem addR_no {l : List Jb} {x : Jb} (h : jobsB l = true) (hn : addOk l x = false) : addR l x = (l, false) := by unfold addR; rw [if_pos h, if_neg (by rw [hn]; decide)]
theorem addR_yes {l : List Jb} {x : Jb} (h : jobsB l = true) (hn : addOk l x = true) : addR l x = (addL l x, true) := by unfold addR; rw [if_pos h, if_pos hn]
theorem boxed5 {w : World} {g : Nat} {E : TypeId} {a b c d e : Int} (K : Blk w g E #[.int .i64 a, .int .i64 b, .int .i64 c, .int .i64 d, .int .i64 e]) :
    w.cell? ⟨g, 0, none⟩ = some (.int .i64 a) ∧ w.cell? ⟨g, 1, none⟩ = some (.int .i64 b) ∧ w.cell? ⟨g, 2, none⟩ = some (.int .i64 c) ∧ w.cell? ⟨g, 3, none⟩ = some (.int .i64 d) ∧ w.cell? ⟨g, 4, none⟩ = some (.int .i64 e) :=
  ⟨K.cell 0, K.cell 1, K.cell 2, K.cell 3, K.cell 4⟩
set_option maxRecDepth 100000 in
set_option maxHeartbeats 4000000 in
theorem jobAdded_walk (A : Option Addr) (n cap : Nat) (l : List Jb) (x0 x1 x2 x3 x4 : Int) (w : World) (hS : Sl w 5 A n (JB l)) (hl : l.length = n) (hn : n ≤ maxLen) (hA : A = none → n = 0 ∧ cap = 0) :
    Calls Tryz.prog 102 #[.slice A n cap, .agg #[.int .i64 x0, .int .i64 x1, .int .i64 x2, .int .i64 x3, .int .i64 x4]] w (RetJobs w (addR l ⟨x0, x1, x2, x3, x4⟩)) := by
  by_cases hpa : jobsB l = true
  · have h8 : n ≤ 8 := by have := (jobsB_all hpa).1; omega
    have HL := Lib.hid hl
    have HS := Lib.hid hS
    have HPA := Lib.hid hpa
    obtain ⟨⟨⟨y0, y1, y2, y3, y4⟩, u⟩, hva⟩ : ∃ v, jobAtV l x0 = v := ⟨_, rfl⟩
    have HVA := Lib.hid hva
    have hu : (jobAtV l x0).2 = u := by rw [hva]
    have HU := Lib.hid hu
    clear hpa hl hS hva hu
    go_enter Tryz.func102, Tryz.ntmps102
    go_wp2_with fail
    refine calls_named ?_
    rintro w0 hw0
    have K0 : Blk w0 w.heap.size 71 #[.int .i64 x0, .int .i64 x1, .int .i64 x2, .int .i64 x3, .int .i64 x4] := by rw [hw0]; exact Blk.new _ _ _
    have b0 : Below w.heap.size w w0 := by rw [hw0]; (repeat' (first | (with_reducible exact Below.refl _ _) | (with_reducible assumption) | (with_reducible refine Below.alloc ?_ ?_ _) | (with_reducible refine Below.drew ?_) | (with_reducible refine Below.setCell ?_ ?_ _) | (with_reducible refine bstep (by assumption) ?_ ?_) | (with_reducible exact Nat.le_refl _) | omega | (simp [*]; done) | (simp [*]; omega)))
    clear hw0
    have c1 := jobsOk_any A n cap l w0 (HS.out.below b0) HL.out hn
    rw [HPA.out] at c1
    refine c1.mono ?_
    rintro e w1 ⟨rfl, b1⟩
    have K1 := K0.below b1
    have f1 := bthen b0 b1
    clear K0 b0 b1 c1
    go_wp2_with fail
    refine (copyJobs_any A n cap l w1 (HS.out.below f1) HL.out (by omega) hA).mono ?_
    rintro e w2 ⟨A2, cap2, rfl, R2, b2⟩
    have K2 := K1.below b2
    have R2 := R2.mono f1.size
    have f2 := bthen f1 b2
    clear K1 f1 b2
    have c3 := jobAtV_any A n cap l x0 w2 (HS.out.below f2) HL.out hn
    rw [HVA.out] at c3
    have q0 := (boxed5 K2).1
    have lt2 := K2.lt
    go_wp2_with fail
    refine c3.mono ?_
    rintro e w3 ⟨rfl, b3⟩
    have K3 := K2.below b3
    have R3 := R2.below b3
    have f3 := bthen f2 b3
    clear q0 lt2 c3 K2 R2 f2 b3
    have lt3 := K3.lt
    obtain ⟨q0, q1, q2, q3, q4⟩ := boxed5 K3
    have HK3 := Lib.hid K3
    have HR3 := Lib.hid R3
    have hs3 := f3.size
    clear K3 R3
    cases u
    · by_cases hok : jobB x0 x1 x2 x3 x4 = true
      · go_wp2_with fail
        refine (jobOk_any _ _ _ _ _ _).mono ?_
        rintro e w4 ⟨rfl, b4⟩
        have K4 := (HK3.out.alloc _).below b4
        have R4 : Row w4 w.heap.size 71 5 A2 n cap2 (JB l) := Row.below (World.ownsRow.alloc HR3.out _) b4
        have f4 := bstep b4 (f3.alloc hs3 _) (by simp; omega)
        clear q0 q1 q2 q3 q4 lt3 b4 f3 HK3 HR3 hs3
        rw [hok]
        have lt4 := K4.lt
        obtain ⟨q0, q1, q2, q3, q4⟩ := boxed5 K4
        have HK4 := Lib.hid K4
        have HR4 := Lib.hid R4
        have hs4 := f4.size
        clear K4 R4
        go_wp2_with fail
        refine (open_any _ _ _ _ _ _).mono ?_
        rintro e w5 ⟨rfl, b5⟩
        have K5 := HK4.out.below b5
        have R5 := HR4.out.below b5
        have f5 := bthen f4 b5
        clear q0 q1 q2 q3 q4 lt4 b5 f4 HK4 HR4 hs4
        by_cases hf : x4 = 0
        · have hd := decide_eq_true hf
          rw [hd]
          have HF0 := Lib.hid hf
          clear hd hf
          by_cases hn8 : n = 8
          · have HF := Lib.hid (addR_no (x := ⟨x0, x1, x2, x3, x4⟩) HPA.out (by unfold addOk; rw [decide_eq_false (show ¬ l.length < 8 by have := HL.out; omega)]; simp))
            have hn8' : ((n : Int) == 8) = true := by simp; omega
            have hnn : (n : Int) = 8 := by omega
            clear hnn
            go_wp2
            refine bodyPost_ret (v := .tuple #[.slice A2 n cap2, .bool false]) (by simp [results, Tryz.results102, go_sem, *]) rfl ?_
            exact retJobs HF.out HL.out.symm R5 f5
          · have hyes : addOk l ⟨x0, x1, x2, x3, x4⟩ = true := by
              have hlt8 : l.length < 8 := by have := HL.out; omega
              have h2 := HU.out
              have h3 := HF0.out
              unfold addOk jobOkB
              simp only
              rw [hok, h2, decide_eq_true h3, decide_eq_true hlt8]
              rfl
            have HF := Lib.hid (addR_yes HPA.out hyes)
            have hn8' : ((n : Int) == 8) = false := by simp; omega
            have hn8i : ¬ (n : Int) = 8 := by omega
            have hltA := R5.lt
            have HR5 := Lib.hid R5
            have HK5 := Lib.hid K5
            have HLA := Lib.hid hltA
            clear R5 K5 hltA hyes
            go_wp2
            go_loopw [9] (fun i wr => ∃ k : Nat, k ≤ n ∧ i = .int .i64 (k : Nat) ∧ Below w5.heap.size w5 wr ∧ Hid (∀ j, j < k → (l.getD j default).i < x0)) (fun i _ => n - (intOf i).toNat)
            case atStart => exact ⟨0, Nat.zero_le _, rfl, Below.refl _ _, fun j hj => absurd hj (by omega)⟩
            case round =>
              obtain ⟨k, hk, rfl, hbl, hall⟩ := hrel
              have Kr := HK5.out.below hbl
              have Rr := HR5.out.below hbl
              have fr := bthen f5 hbl
              have hsr := fr.size
              have ltr := Kr.lt
              obtain ⟨q0, q1, q2, q3, q4⟩ := boxed5 Kr
              have HRr := Lib.hid Rr
              clear Kr Rr
              by_cases hlt : k < n
              · obtain ⟨g, cs, rfl, hlg, K, hcs, hj, hcell⟩ := HRr.out.cells5 HL.out (by omega)
                obtain ⟨h0, _, _, _, _⟩ := hcell k hlt
                have hgl := K.lt
                have hlt' : (k : Int) < (n : Int) := by omega
                have hd : decide ((k : Int) < (n : Int)) = true := decide_eq_true hlt'
                have hcp := HRr.out.cap_le
                have hcm : cap2 ≤ 9223372036854775807 := by have := hcp.2; unfold maxLen at this; omega
                have hcn := hcp.1
                generalize hy : (l.getD k default).i = z at h0
                have HY := Lib.hid hy
                clear hcell hj hcs K hcp hy
                by_cases hz : z < x0
                · have hzd : decide (z < x0) = true := decide_eq_true hz
                  go_wp2
                  go_quiet (fail)
                  go_wp2
                  exact ⟨⟨k + 1, by omega, by go_num, below_drewN hbl _, Lib.hid (fun j hjk => by
                    rcases Nat.lt_or_ge j k with h | h
                    · exact hall.out j h
                    · obtain rfl : j = k := by omega
                      rw [HY.out]; exact hz)⟩, by simp [intOf]; omega⟩
                · have hzd : decide (z < x0) = false := decide_eq_false hz
                  have HE := Lib.hid (addL_ins k l ⟨x0, x1, x2, x3, x4⟩ (by have := HL.out; omega) hall.out (fun _ => by rw [HY.out]; exact hz))
                  go_wp2
                  go_quiet (fail)
                  go_wp2_with fail
                  refine calls_named ?_
                  rintro wq hwq
                  have Rq : Row wq w.heap.size 71 5 (some ⟨g, 0, none⟩) n cap2 (JB l) := by rw [hwq]; exact World.ownsRow.alloc HRr.out _
                  have V : Blk wq wr.heap.size 71 (ints [x0, x1, x2, x3, x4]).toArray := by rw [hwq]; exact Blk.new _ _ _
                  have fq : Below w.heap.size w wq := by rw [hwq]; exact (below_drewN fr _).alloc hsr _
                  clear hwq
                  refine (insertJob_any w.heap.size (some ⟨g, 0, none⟩) n cap2 k wr.heap.size (JB l) [x0, x1, x2, x3, x4] wq Rq fq.size (by omega) hk rfl V (fun a ha => by obtain rfl := Option.some.inj ha; exact Nat.ne_of_lt hgl)).mono ?_
                  rintro e w7 ⟨A7, c7, rfl, R7, b7⟩
                  go_wp2
                  refine bodyPost_ret (v := .tuple #[.slice A7 (n + 1) c7, .bool true]) (by simp [results, Tryz.results102, go_sem, *]) rfl ?_
                  rw [← JB_ins l k ⟨x0, x1, x2, x3, x4⟩] at R7
                  refine retJobs (HF.out.trans (by rw [HE.out])) ?_ R7 (fq.trans b7)
                  have := HL.out
                  simp; omega
              · obtain rfl : k = n := by omega
                have hd : decide ((k : Int) < (k : Int)) = false := decide_eq_false (by omega)
                have HE := Lib.hid (addL_ins k l ⟨x0, x1, x2, x3, x4⟩ (by have := HL.out; omega) hall.out (fun h => absurd h (by have := HL.out; omega)))
                go_wp2
                go_quiet (fail)
                go_wp2_with fail
                refine calls_named ?_
                rintro wq hwq
                have Rq : Row wq w.heap.size 71 5 A2 k cap2 (JB l) := by rw [hwq]; exact World.ownsRow.alloc HRr.out _
                have V : Blk wq wr.heap.size 71 (ints [x0, x1, x2, x3, x4]).toArray := by rw [hwq]; exact Blk.new _ _ _
                have fq : Below w.heap.size w wq := by rw [hwq]; exact (below_drewN fr _).alloc hsr _
                have hll := HRr.out.lt
                clear hwq
                refine (insertJob_any w.heap.size A2 k cap2 k wr.heap.size (JB l) [x0, x1, x2, x3, x4] wq Rq fq.size (by omega) hk rfl V (fun a ha => Nat.ne_of_lt (hll a ha))).mono ?_
                rintro e w7 ⟨A7, c7, rfl, R7, b7⟩
                go_wp2
                refine bodyPost_ret (v := .tuple #[.slice A7 (k + 1) c7, .bool true]) (by simp [results, Tryz.results102, go_sem, *]) rfl ?_
                rw [← JB_ins l k ⟨x0, x1, x2, x3, x4⟩] at R7
                refine retJobs (HF.out.trans (by rw [HE.out])) ?_ R7 (fq.trans b7)
                have := HL.out
                simp; omega
        · have hd := decide_eq_false hf
          rw [hd]
          have HF := Lib.hid (addR_no (x := ⟨x0, x1, x2, x3, x4⟩) HPA.out (by unfold addOk; simp only; rw [decide_eq_false hf]; simp))
          clear hd hf
          go_wp2
          refine bodyPost_ret (v := .tuple #[.slice A2 n cap2, .bool false]) (by simp [results, Tryz.results102, go_sem, *]) rfl ?_
          exact retJobs HF.out HL.out.symm R5 f5
      · have hok' : jobB x0 x1 x2 x3 x4 = false := by simpa using hok
        have HF := Lib.hid (addR_no (x := ⟨x0, x1, x2, x3, x4⟩) HPA.out (by unfold addOk jobOkB; simp only; rw [hok']; simp))
        clear hok
        go_wp2_with fail
        refine (jobOk_any _ _ _ _ _ _).mono ?_
        rintro e w4 ⟨rfl, b4⟩
        have R4 : Row w4 w.heap.size 71 5 A2 n cap2 (JB l) := Row.below (World.ownsRow.alloc HR3.out _) b4
        have f4 := bstep b4 (f3.alloc hs3 _) (by simp; omega)
        rw [hok']
        clear q0 q1 q2 q3 q4 lt3 b4 f3 HK3 HR3 hs3
        go_wp2
        refine bodyPost_ret (v := .tuple #[.slice A2 n cap2, .bool false]) (by simp [results, Tryz.results102, go_sem, *]) rfl ?_
        exact retJobs HF.out HL.out.symm R4 f4
    · have HF := Lib.hid (addR_no (x := ⟨x0, x1, x2, x3, x4⟩) HPA.out (by have h2 := HU.out; unfold addOk; simp only; rw [h2]; simp))
      go_wp2
      refine bodyPost_ret (v := .tuple #[.slice A2 n cap2, .bool false]) (by simp [results, Tryz.results102, go_sem, *]) rfl ?_
      exact retJobs HF.out HL.out.symm (World.ownsRow.alloc HR3.out _) (f3.alloc hs3 _)
  · have hpa' : jobsB l = false := by simpa using hpa
    have HF := Lib.hid (show addR l ⟨x0, x1, x2, x3, x4⟩ = ([], false) by unfold addR; rw [if_neg hpa])
    go_enter Tryz.func102, Tryz.ntmps102
    go_wp2_with fail
    refine calls_named ?_
    rintro w0 hw0
    have b0 : Below w.heap.size w w0 := by rw [hw0]; (repeat' (first | (with_reducible exact Below.refl _ _) | (with_reducible assumption) | (with_reducible refine Below.alloc ?_ ?_ _) | (with_reducible refine Below.drew ?_) | (with_reducible refine Below.setCell ?_ ?_ _) | (with_reducible refine bstep (by assumption) ?_ ?_) | (with_reducible exact Nat.le_refl _) | omega | (simp [*]; done) | (simp [*]; omega)))
    clear hw0
    have c1 := jobsOk_any A n cap l w0 (hS.below b0) hl hn
    rw [hpa'] at c1
    refine c1.mono ?_
    rintro e w1 ⟨rfl, b1⟩
    go_wp2
    refine bodyPost_ret (v := .tuple #[.slice none 0 0, .bool false]) (by simp [results, Tryz.results102, go_sem, *]) rfl ?_
    exact retJobs HF.out rfl (Row.nil _ _ _ _) (bthen b0 b1)
end Go.Proofs.YtokklkmibjpjnaaGreat
namespace Go.Proofs.YtokklkmibjpjnaaGreat
set_option linter.unusedSimpArgs false
set_option linter.unusedVariables false
attribute [local go_sem] n_lt2 n_lt3 n_lt4 n_le2 n_le3
open Go.RowKit
attribute [local go_sem] Ext.cell Ext.frozen

set_option maxRecDepth 100000 in
set_option maxHeartbeats 4000000 in
theorem specJobAdded_walk (A : Option Addr) (n cap : Nat) (l : List Jb) (x0 x1 x2 x3 x4 : Int) (w : World) (hS : Sl w 5 A n (JB l)) (hl : l.length = n) (hn : n ≤ maxLen) (hA : A = none → n = 0 ∧ cap = 0) :
    Calls Tryz.prog 31 #[.slice A n cap, .agg #[.int .i64 x0, .int .i64 x1, .int .i64 x2, .int .i64 x3, .int .i64 x4]] w (RetJobs w (addR l ⟨x0, x1, x2, x3, x4⟩)) := by
  by_cases hpa : jobsB l = true
  · have h8 : n ≤ 8 := by have := (jobsB_all hpa).1; omega
    have HL := Lib.hid hl
    have HS := Lib.hid hS
    have HPA := Lib.hid hpa
    have hjr : ∀ key, jobAtR l key = jobAtV l key := fun key => by unfold jobAtR; rw [if_pos hpa]
    have HJR := Lib.hid hjr
    obtain ⟨⟨⟨y0, y1, y2, y3, y4⟩, u⟩, hva⟩ : ∃ v, jobAtV l x0 = v := ⟨_, rfl⟩
    have HVA := Lib.hid hva
    have hu : (jobAtV l x0).2 = u := by rw [hva]
    have HU := Lib.hid hu
    clear hpa hl hS hva hu hjr
    go_enter Tryz.func31, Tryz.ntmps31
    go_wp2_with fail
    refine calls_named ?_
    rintro w0 hw0
    have K0 : Blk w0 w.heap.size 71 #[.int .i64 x0, .int .i64 x1, .int .i64 x2, .int .i64 x3, .int .i64 x4] := by rw [hw0]; exact Blk.new _ _ _
    have b0 : Below w.heap.size w w0 := by rw [hw0]; (repeat' (first | (with_reducible exact Below.refl _ _) | (with_reducible assumption) | (with_reducible refine Below.alloc ?_ ?_ _) | (with_reducible refine Below.drew ?_) | (with_reducible refine Below.setCell ?_ ?_ _) | (with_reducible refine bstep (by assumption) ?_ ?_) | (with_reducible exact Nat.le_refl _) | omega | (simp [*]; done) | (simp [*]; omega)))
    clear hw0
    have c1 := specJobsOk_any A n cap l w0 (HS.out.below b0) HL.out hn
    rw [HPA.out] at c1
    refine c1.mono ?_
    rintro e w1 ⟨rfl, b1⟩
    have K1 := K0.below b1
    have f1 := bthen b0 b1
    clear K0 b0 b1 c1
    have c3 := specJobAt_any A n cap l x0 w1 (HS.out.below f1) HL.out hn
    rw [HJR.out, HVA.out] at c3
    have q0 := (boxed5 K1).1
    have lt1 := K1.lt
    go_wp2_with fail
    refine c3.mono ?_
    rintro e w2 ⟨rfl, b2⟩
    have K2 := K1.below b2
    have f2 := bthen f1 b2
    have hs2 := f2.size
    clear q0 lt1 c3 K1 f1 b2
    have lt2 := K2.lt
    obtain ⟨q0, q1, q2, q3, q4⟩ := boxed5 K2
    have HK2 := Lib.hid K2
    clear K2
    go_wp2_with fail
    refine (specJobOk_any _ _ _ _ _ _).mono ?_
    rintro e w4 ⟨rfl, b4⟩
    have K4 := (HK2.out.alloc _).below b4
    have f4 := bstep b4 (f2.alloc hs2 _) (by simp; omega)
    have lt4 := K4.lt
    clear q0 q1 q2 q3 q4 b4 f2 HK2 hs2 lt2
    obtain ⟨q0, q1, q2, q3, q4⟩ := boxed5 K4
    have HK4 := Lib.hid K4
    have hs4 := f4.size
    clear K4
    by_cases hyes : addOk l ⟨x0, x1, x2, x3, x4⟩ = true
    · have hy := hyes
      unfold addOk jobOkB at hy
      simp only [Bool.and_eq_true, decide_eq_true_eq, Bool.not_eq_true'] at hy
      obtain ⟨hok, hf, hu, hlt8⟩ := hy
      rw [HU.out] at hu
      subst hu
      rw [hok]
      have hrng : 1 ≤ x0 ∧ x0 ≤ 20 := by
        have := hok
        unfold jobB at this
        simp only [Bool.and_eq_true, inB_iff] at this
        exact this.1
      have hthere : ∀ p ∈ l, p.i ≠ x0 := jobAtV_there HU.out
      have HF := Lib.hid (addR_yes HPA.out hyes)
      have HT := Lib.hid (addTo_all (x := ⟨x0, x1, x2, x3, x4⟩) HPA.out hrng hthere)
      have hf' : (x4 == 0) = true := by simpa using hf
      have hn8 : ¬ (8 : Int) ≤ (n : Int) := by have := HL.out; omega
      have HX4 := Lib.hid hf
      have hfn : (x4 != 0) = false := by simp [hf]
      clear hyes hok hrng hthere hlt8 hf
      go_wp2
      go_loopw [8, 9] (fun o i wr => ∃ (k : Nat) (A0 : Option Addr) (n0 c0 : Nat) (zs : List Int), k ≤ 20 ∧ n0 ≤ k ∧ i = .int .i64 ((k : Int) + 1) ∧ o = .slice A0 n0 c0 ∧ Row wr w4.heap.size 71 5 A0 n0 c0 zs ∧ Hid (zs = JB (addTo l ⟨x0, x1, x2, x3, x4⟩ k)) ∧ Below w4.heap.size w4 wr) (fun _ i _ => 21 - (intOf i).toNat)
      case atStart => exact ⟨0, _, _, _, _, by omega, Nat.le_refl _, by simp, rfl, row0p (Blk.new w4 _ _) (Nat.le_refl _), Lib.hid rfl, (Below.refl _ _).alloc (Nat.le_refl _) _⟩
      case round =>
        obtain ⟨k, A0, n0, c0, zs, hk, hn0, rfl, rfl, R, hz, hbl⟩ := hrel
        have fr := bthen f4 hbl
        by_cases hlt : k < 20
        · have hlt' : (k : Int) + 1 ≤ 20 := by omega
          obtain ⟨⟨⟨z0, z1, z2, z3, z4⟩, v⟩, hvz⟩ : ∃ v, jobAtV l ((k : Int) + 1) = v := ⟨_, rfl⟩
          have c5 := specJobAt_any A n cap l ((k : Int) + 1) wr (HS.out.below fr) HL.out hn
          rw [HJR.out, hvz] at c5
          have HVZ := Lib.hid hvz
          clear hvz
          go_wp2_with fail
          refine c5.mono ?_
          rintro e w5 ⟨rfl, b5⟩
          have R5 := R.below b5
          have hbl5 := bthen hbl b5
          have K5 := HK4.out.below hbl5
          have hs5 := hbl5.size
          have lt5 := K5.lt
          clear q0 q1 q2 q3 q4 b5 c5 R fr hbl
          obtain ⟨q0, q1, q2, q3, q4⟩ := boxed5 K5
          clear K5
          by_cases hkk : (k : Int) + 1 = x0
          · have HE := Lib.hid (show JB (addTo l ⟨x0, x1, x2, x3, x4⟩ (k + 1)) = JB (addTo l ⟨x0, x1, x2, x3, x4⟩ k) ++ [x0, x1, x2, x3, x4] by rw [addTo_succ, JB_append]; congr 1; unfold addG; rw [if_pos hkk]; rfl)
            have hkk' : ((k : Int) + 1 == x0) = true := by simpa using hkk
            have hkn : x0 = (k : Int) + 1 := hkk.symm
            clear hkk hkn
            go_wp2_with (at_builtin; refine wpList_append_row rfl _ _ 34 rfl 71 (.agg #[.int .i64 0, .int .i64 0, .int .i64 0, .int .i64 0, .int .i64 0]) 5 40 Tryz.underlying34 info_Job (by first | kernel_rfl | simp [Value.cells]) (by decide) w4.heap.size A0 n0 c0 zs rfl (World.ownsRow.alloc (World.ownsRow.alloc R5 _) _) ⟨w5.heap.size + 1, 0, none⟩ 1 1 [x0, x1, x2, x3, x4] rfl rfl (cell_five_at _ _ _ _ _ _ _ _ (by simp)) (by unfold maxLen; omega) (by omega) (by simp; omega) ?_; intro A6 c6 w6 R6 B6)
            refine ⟨⟨k + 1, A6, _, c6, _, by omega, by omega, by go_num, rfl, R6, Lib.hid (by rw [HE.out, hz.out]), ((hbl5.alloc hs5 _).alloc (by simp; omega) _).trans B6⟩, by simp [intOf]; omega⟩
          · have hkk' : ((k : Int) + 1 == x0) = false := by simpa using hkk
            cases v
            · have HE := Lib.hid (show JB (addTo l ⟨x0, x1, x2, x3, x4⟩ (k + 1)) = JB (addTo l ⟨x0, x1, x2, x3, x4⟩ k) by rw [addTo_succ, JB_append]; unfold addG; rw [if_neg hkk, HVZ.out]; simp [JB])
              clear hkk
              go_wp2
              exact ⟨⟨k + 1, A0, n0, c0, zs, by omega, by omega, by go_num, rfl, World.ownsRow.alloc R5 _, Lib.hid (by rw [HE.out, hz.out]), hbl5.alloc hs5 _⟩, by simp [intOf]; omega⟩
            · have HE := Lib.hid (show JB (addTo l ⟨x0, x1, x2, x3, x4⟩ (k + 1)) = JB (addTo l ⟨x0, x1, x2, x3, x4⟩ k) ++ [z0, z1, z2, z3, z4] by rw [addTo_succ, JB_append]; unfold addG; rw [if_neg hkk, HVZ.out]; simp [JB])
              clear hkk
              go_wp2_with (at_builtin; refine wpList_append_row rfl _ _ 34 rfl 71 (.agg #[.int .i64 0, .int .i64 0, .int .i64 0, .int .i64 0, .int .i64 0]) 5 40 Tryz.underlying34 info_Job (by first | kernel_rfl | simp [Value.cells]) (by decide) w4.heap.size A0 n0 c0 zs rfl (World.ownsRow.alloc (World.ownsRow.alloc R5 _) _) ⟨w5.heap.size + 1, 0, none⟩ 1 1 [z0, z1, z2, z3, z4] rfl rfl (cell_five_at _ _ _ _ _ _ _ _ (by simp)) (by unfold maxLen; omega) (by omega) (by simp; omega) ?_; intro A6 c6 w6 R6 B6)
              refine ⟨⟨k + 1, A6, _, c6, _, by omega, by omega, by go_num, rfl, R6, Lib.hid (by rw [HE.out, hz.out]), ((hbl5.alloc hs5 _).alloc (by simp; omega) _).trans B6⟩, by simp [intOf]; omega⟩
        · obtain rfl : k = 20 := by omega
          go_wp2
          refine bodyPost_ret (v := .tuple #[.slice A0 n0 c0, .bool true]) (by simp [results, Tryz.results31, go_sem, *]) rfl ?_
          have hzz := hz.out
          rw [HT.out] at hzz
          subst hzz
          refine retJobs HF.out ?_ (R.mono hs4) fr
          have := R.len
          rw [JB_len] at this
          omega
    · have hno : addOk l ⟨x0, x1, x2, x3, x4⟩ = false := by simpa using hyes
      have HF := Lib.hid (addR_no HPA.out hno)
      have hcs : jobB x0 x1 x2 x3 x4 = false ∨ (jobB x0 x1 x2 x3 x4 = true ∧ x4 ≠ 0) ∨ (jobB x0 x1 x2 x3 x4 = true ∧ x4 = 0 ∧ u = true) ∨ (jobB x0 x1 x2 x3 x4 = true ∧ x4 = 0 ∧ u = false ∧ (8 : Int) ≤ (n : Int)) := by
        by_cases h1 : jobB x0 x1 x2 x3 x4 = true
        · by_cases h2 : x4 = 0
          · cases hu : u
            · refine .inr (.inr (.inr ⟨h1, h2, rfl, ?_⟩))
              have h3 := HU.out
              rw [hu] at h3
              unfold addOk jobOkB at hno
              simp only at hno
              rw [h1, h3, decide_eq_true h2] at hno
              simp at hno
              have := HL.out
              omega
            · exact .inr (.inr (.inl ⟨h1, h2, rfl⟩))
          · exact .inr (.inl ⟨h1, h2⟩)
        · exact .inl (by simpa using h1)
      clear hyes hno
      have fin : ∀ w7 A7 c7, RetRow w4 71 5 n (JB l) (.returned (.slice A7 n c7)) w7 → RetJobs w (addR l ⟨x0, x1, x2, x3, x4⟩) (.returned (.tuple #[.slice A7 n c7, .bool false])) w7 := by
        rintro w7 A7 c7 ⟨A8, c8, he, R8, b8⟩
        injection he with he
        injection he with h1 _ h3
        subst h1 h3
        exact retJobs HF.out HL.out.symm (R8.mono hs4) (bthen f4 b8)
      have FIN := Lib.hid fin
      have COPY := Lib.hid (l15Copy_any A n cap l w4 (HS.out.below f4) HL.out (by omega) hA)
      clear fin
      rcases hcs with h1 | ⟨h1, h2⟩ | ⟨h1, h2, rfl⟩ | ⟨h1, h2, rfl, h3⟩
      · rw [h1]
        go_wp2_with fail
        refine COPY.out.mono ?_
        rintro e w7 ⟨A7, c7, rfl, R7, b7⟩
        go_wp2
        exact bodyPost_ret (v := .tuple #[.slice A7 n c7, .bool false]) (by simp [results, Tryz.results31, go_sem, *]) rfl (FIN.out _ _ _ ⟨A7, c7, rfl, R7, b7⟩)
      · rw [h1]
        have hfn : (x4 != 0) = true := by simpa using h2
        clear h2
        go_wp2_with fail
        refine COPY.out.mono ?_
        rintro e w7 ⟨A7, c7, rfl, R7, b7⟩
        go_wp2
        exact bodyPost_ret (v := .tuple #[.slice A7 n c7, .bool false]) (by simp [results, Tryz.results31, go_sem, *]) rfl (FIN.out _ _ _ ⟨A7, c7, rfl, R7, b7⟩)
      · rw [h1]
        have hfn : (x4 != 0) = false := by simpa using h2
        clear h2
        go_wp2_with fail
        refine COPY.out.mono ?_
        rintro e w7 ⟨A7, c7, rfl, R7, b7⟩
        go_wp2
        exact bodyPost_ret (v := .tuple #[.slice A7 n c7, .bool false]) (by simp [results, Tryz.results31, go_sem, *]) rfl (FIN.out _ _ _ ⟨A7, c7, rfl, R7, b7⟩)
      · rw [h1]
        have hfn : (x4 != 0) = false := by simpa using h2
        clear h2
        go_wp2_with fail
        refine COPY.out.mono ?_
        rintro e w7 ⟨A7, c7, rfl, R7, b7⟩
        go_wp2
        exact bodyPost_ret (v := .tuple #[.slice A7 n c7, .bool false]) (by simp [results, Tryz.results31, go_sem, *]) rfl (FIN.out _ _ _ ⟨A7, c7, rfl, R7, b7⟩)
  · have hpa' : jobsB l = false := by simpa using hpa
    have HF := Lib.hid (show addR l ⟨x0, x1, x2, x3, x4⟩ = ([], false) by unfold addR; rw [if_neg hpa])
    go_enter Tryz.func31, Tryz.ntmps31
    go_wp2_with fail
    refine calls_named ?_
    rintro w0 hw0
    have b0 : Below w.heap.size w w0 := by rw [hw0]; (repeat' (first | (with_reducible exact Below.refl _ _) | (with_reducible assumption) | (with_reducible refine Below.alloc ?_ ?_ _) | (with_reducible refine Below.drew ?_) | (with_reducible refine Below.setCell ?_ ?_ _) | (with_reducible refine bstep (by assumption) ?_ ?_) | (with_reducible exact Nat.le_refl _) | omega | (simp [*]; done) | (simp [*]; omega)))
    clear hw0
    have c1 := specJobsOk_any A n cap l w0 (hS.below b0) hl hn
    rw [hpa'] at c1
    refine c1.mono ?_
    rintro e w1 ⟨rfl, b1⟩
    have f1 := bthen b0 b1
    go_wp2
    refine bodyPost_ret (v := .tuple #[.slice (some ⟨w1.heap.size, 0, none⟩) 0 0, .bool false]) (by simp [results, Tryz.results31, go_sem, *]) rfl ?_
    exact retJobs HF.out rfl (row0p (Blk.new w1 _ _) f1.size) (f1.alloc f1.size _)
theorem addedRS_any (A : Option Addr) (n cap : Nat) (l : List Jb) (x0 x1 x2 x3 x4 : Int) (w : World) (hS : Sl w 5 A n (JB l)) (hl : l.length = n) (hn : n ≤ maxLen) (hA : A = none → n = 0 ∧ cap = 0) :
    Calls Tryz.prog 31 #[.slice A n cap, .agg #[.int .i64 x0, .int .i64 x1, .int .i64 x2, .int .i64 x3, .int .i64 x4]] w (RetRowB w 71 5 (addR l ⟨x0, x1, x2, x3, x4⟩).1.length (JB (addR l ⟨x0, x1, x2, x3, x4⟩).1) (addR l ⟨x0, x1, x2, x3, x4⟩).2) := specJobAdded_walk A n cap l x0 x1 x2 x3 x4 w hS hl hn hA
theorem addedRI_any (A : Option Addr) (n cap : Nat) (l : List Jb) (x0 x1 x2 x3 x4 : Int) (w : World) (hS : Sl w 5 A n (JB l)) (hl : l.length = n) (hn : n ≤ maxLen) (hA : A = none → n = 0 ∧ cap = 0) :
    Calls Tryz.prog 102 #[.slice A n cap, .agg #[.int .i64 x0, .int .i64 x1, .int .i64 x2, .int .i64 x3, .int .i64 x4]] w (RetRowB w 71 5 (addR l ⟨x0, x1, x2, x3, x4⟩).1.length (JB (addR l ⟨x0, x1, x2, x3, x4⟩).1) (addR l ⟨x0, x1, x2, x3, x4⟩).2) := jobAdded_walk A n cap l x0 x1 x2 x3 x4 w hS hl hn hA
end Go.Proofs.YtokklkmibjpjnaaGreat

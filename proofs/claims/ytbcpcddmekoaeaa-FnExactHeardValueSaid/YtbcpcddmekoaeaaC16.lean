/- HeardAck and HeardValue, the result by its parts. -/
import Derived.Test.YtbcpcddmekoaeaaC12
import Derived.Test.YtbcpcddmekoaeaaC13
import Derived.Test.YtbcpcddmekoaeaaC14
import Derived.Test.YtbcpcddmekoaeaaC15
import Derived.Deep.Cut
namespace Go.Proofs.Ytbcpcddmekoaeaa
set_option linter.unusedSimpArgs false
set_option linter.unusedVariables false
attribute [local go_sem] n_lt2 n_lt3 n_lt4 n_le2 n_le3
open Go.RowKit
theorem held_alloc {W v : World} (h : ∀ b o, b < W.heap.size → v.cell? ⟨b, o, none⟩ = W.cell? ⟨b, o, none⟩) (hz : W.heap.size ≤ v.heap.size) (x : Obj) : ∀ b o, b < W.heap.size → (v.alloc x).cell? ⟨b, o, none⟩ = W.cell? ⟨b, o, none⟩ :=
  fun b o hb => (((Below.refl v.heap.size v).alloc (Nat.le_refl _) x).cell (p := ⟨b, o, none⟩) (Nat.lt_of_lt_of_le hb hz)).trans (h b o hb)
theorem drew_size (v : World) : v.heap.size = v.drew.heap.size := rfl
theorem held_drew {W v : World} (h : ∀ b o, b < W.heap.size → v.cell? ⟨b, o, none⟩ = W.cell? ⟨b, o, none⟩) : ∀ b o, b < W.heap.size → v.drew.cell? ⟨b, o, none⟩ = W.cell? ⟨b, o, none⟩ := h
theorem below_dr {v w' : World} (h : Below v.drew.heap.size v.drew w') : Below v.heap.size v w' := ⟨h.os, h.tape, h.output, h.size, h.block⟩
theorem below_al {v w' : World} {x : Obj} (h : Below (v.alloc x).heap.size (v.alloc x) w') : Below v.heap.size v w' := bthen ((Below.refl _ _).alloc (Nat.le_refl _) _) h
theorem below_da {v w' : World} {x : Obj} (h : Below (v.alloc x).drew.heap.size (v.alloc x).drew w') : Below v.heap.size v w' := below_al (below_dr h)
theorem below_ad {v w' : World} {x : Obj} (h : Below (v.drew.alloc x).heap.size (v.drew.alloc x) w') : Below v.heap.size v w' := below_dr (below_al h)
theorem sl_ad {v : World} {s n : Nat} {A : Option Addr} {zs : List Int} {x : Obj} (h : Sl v s A n zs) : Sl (v.drew.alloc x) s A n zs := (Sl.drew h).alloc x
theorem sl_da {v : World} {s n : Nat} {A : Option Addr} {zs : List Int} {x : Obj} (h : Sl v s A n zs) : Sl (v.alloc x).drew s A n zs := (h.alloc x).drew
theorem held_set4 {W v : World} {g : Nat} (h : ∀ b o, b < W.heap.size → v.cell? ⟨b, o, none⟩ = W.cell? ⟨b, o, none⟩) (hz : W.heap.size ≤ g) (y0 y1 y2 y3 : Value) : ∀ b o, b < W.heap.size → ((((v.setCell ⟨g, 0, none⟩ y0).setCell ⟨g, 1, none⟩ y1).setCell ⟨g, 2, none⟩ y2).setCell ⟨g, 3, none⟩ y3).cell? ⟨b, o, none⟩ = W.cell? ⟨b, o, none⟩ := fun b o hb => by
  have hne : g ≠ b := by omega
  rw [World.cell?_setCell_far _ _ _ _ hne, World.cell?_setCell_far _ _ _ _ hne, World.cell?_setCell_far _ _ _ _ hne, World.cell?_setCell_far _ _ _ _ hne]
  exact h b o hb
/-- The parts of a client r. -/
structure Parts (r : Int × List Wt × List Gt × Int) (ri rt : Int) (rn rm : Nat) (rz ry : List Int) : Prop where
  i : r.1 = ri
  t : r.2.2.2 = rt
  n : r.2.1.length = rn
  m : r.2.2.1.length = rm
  z : WT r.2.1 = rz
  y : GT r.2.2.1 = ry
theorem specHeardAck_r (A : Option Addr) (n c : Nat) (B : Option Addr) (m d : Nat) (i0 t0 : Int) (wl : List Wt) (gl : List Gt) (a0 a1 a2 a3 : Int) (w : World) (hP : Sl w 7 A n (WT wl)) (hQ : Sl w 4 B m (GT gl)) (hl : wl.length = n) (hr : gl.length = m) (hn : n ≤ maxLen) (hm : m ≤ maxLen) {ri rt : Int} {rn rm : Nat} {rz ry : List Int} (hR : Parts (heardR i0 wl gl t0 (ackFit i0 wl gl t0 a0 a1 a2 a3) ⟨pendS wl gl, a2, 0, 0⟩) ri rt rn rm rz ry) :
    Calls Try.prog 41 #[.agg #[.int .i64 i0, .slice A n c, .slice B m d, .int .i64 t0], .agg #[.int .i64 a0, .int .i64 a1, .int .i64 a2, .int .i64 a3]] w (RetHeard w w.heap.size ri rt rn rz rm ry) := by
  have h := specHeardAck_any A n c B m d i0 t0 wl gl a0 a1 a2 a3 w hP hQ hl hr hn hm
  unfold RetR at h
  rw [hR.i, hR.t, hR.n, hR.m, hR.z, hR.y] at h
  exact h
theorem heardAck_r (A : Option Addr) (n c : Nat) (B : Option Addr) (m d : Nat) (i0 t0 : Int) (wl : List Wt) (gl : List Gt) (a0 a1 a2 a3 : Int) (w : World) (hP : Sl w 7 A n (WT wl)) (hQ : Sl w 4 B m (GT gl)) (hl : wl.length = n) (hr : gl.length = m) (hn : n ≤ maxLen) (hm : m ≤ maxLen) {ri rt : Int} {rn rm : Nat} {rz ry : List Int} (hR : Parts (heardR i0 wl gl t0 (ackFit i0 wl gl t0 a0 a1 a2 a3) ⟨pendS wl gl, a2, 0, 0⟩) ri rt rn rm rz ry) :
    Calls Try.prog 43 #[.agg #[.int .i64 i0, .slice A n c, .slice B m d, .int .i64 t0], .agg #[.int .i64 a0, .int .i64 a1, .int .i64 a2, .int .i64 a3]] w (RetHeard w w.heap.size ri rt rn rz rm ry) := by
  have h := heardAck_any A n c B m d i0 t0 wl gl a0 a1 a2 a3 w hP hQ hl hr hn hm
  unfold RetR at h
  rw [hR.i, hR.t, hR.n, hR.m, hR.z, hR.y] at h
  exact h
theorem specHeardValue_r (A : Option Addr) (n c : Nat) (B : Option Addr) (m d : Nat) (i0 t0 : Int) (wl : List Wt) (gl : List Gt) (a0 a1 a2 a3 a4 : Int) (w : World) (hP : Sl w 7 A n (WT wl)) (hQ : Sl w 4 B m (GT gl)) (hl : wl.length = n) (hr : gl.length = m) (hn : n ≤ maxLen) (hm : m ≤ maxLen) {ri rt : Int} {rn rm : Nat} {rz ry : List Int} (hR : Parts (heardR i0 wl gl t0 (valFit i0 wl gl t0 a0 a1 a2 a3 a4) ⟨pendS wl gl, a2, a3, a4⟩) ri rt rn rm rz ry) :
    Calls Try.prog 38 #[.agg #[.int .i64 i0, .slice A n c, .slice B m d, .int .i64 t0], .agg #[.int .i64 a0, .int .i64 a1, .int .i64 a2, .int .i64 a3, .int .i64 a4]] w (RetHeard w w.heap.size ri rt rn rz rm ry) := by
  have h := specHeardValue_any A n c B m d i0 t0 wl gl a0 a1 a2 a3 a4 w hP hQ hl hr hn hm
  unfold RetR at h
  rw [hR.i, hR.t, hR.n, hR.m, hR.z, hR.y] at h
  exact h
theorem heardValue_r (A : Option Addr) (n c : Nat) (B : Option Addr) (m d : Nat) (i0 t0 : Int) (wl : List Wt) (gl : List Gt) (a0 a1 a2 a3 a4 : Int) (w : World) (hP : Sl w 7 A n (WT wl)) (hQ : Sl w 4 B m (GT gl)) (hl : wl.length = n) (hr : gl.length = m) (hn : n ≤ maxLen) (hm : m ≤ maxLen) {ri rt : Int} {rn rm : Nat} {rz ry : List Int} (hR : Parts (heardR i0 wl gl t0 (valFit i0 wl gl t0 a0 a1 a2 a3 a4) ⟨pendS wl gl, a2, a3, a4⟩) ri rt rn rm rz ry) :
    Calls Try.prog 40 #[.agg #[.int .i64 i0, .slice A n c, .slice B m d, .int .i64 t0], .agg #[.int .i64 a0, .int .i64 a1, .int .i64 a2, .int .i64 a3, .int .i64 a4]] w (RetHeard w w.heap.size ri rt rn rz rm ry) := by
  have h := heardValue_any A n c B m d i0 t0 wl gl a0 a1 a2 a3 a4 w hP hQ hl hr hn hm
  unfold RetR at h
  rw [hR.i, hR.t, hR.n, hR.m, hR.z, hR.y] at h
  exact h
end Go.Proofs.Ytbcpcddmekoaeaa

/- Clients: AcksOf, the program's and the reference's. -/
import Derived.Test.YtckbnfgdjdppfaaC3
import Derived.Test.YtckbnfgdjdppfaaSAck
import Derived.Test.YtckbnfgdjdppfaaApp
import Derived.Deep.RegionHeldLaw
import Derived.Deep.AppendLies
namespace Go.Proofs.Ytckbnfgdjdppfaa
set_option linter.unusedSimpArgs false
set_option linter.unusedVariables false
attribute [local go_sem] n_lt2 n_lt3 n_lt4 n_le2 n_le3
open Go.RowKit
def ack1 (i0 : Int) (p : Wt) (q : Gt) : List Int := if p.k = 4 then [] else [i0, q.q, q.x, q.q]
def ackR (i0 : Int) (wl : List Wt) (gl : List Gt) (k : Nat) : List Int := (List.range k).flatMap fun j => ack1 i0 (wl.getD j default) (gl.getD j default)
def acksL (i0 : Int) (wl : List Wt) (gl : List Gt) (t0 : Int) : List Int := if clientB i0 wl gl t0 = true then ackR i0 wl gl gl.length else []
theorem ackR_succ (i0 : Int) (wl : List Wt) (gl : List Gt) (k : Nat) : ackR i0 wl gl (k + 1) = ackR i0 wl gl k ++ ack1 i0 (wl.getD k default) (gl.getD k default) := by
  unfold ackR; rw [List.range_succ, List.flatMap_append]; simp
theorem ackR_len (i0 : Int) (wl : List Wt) (gl : List Gt) (k : Nat) : (ackR i0 wl gl k).length ≤ 4 * k := by
  induction k with
  | zero => simp [ackR]
  | succ k ih =>
    rw [ackR_succ, List.length_append]
    have : (ack1 i0 (wl.getD k default) (gl.getD k default)).length ≤ 4 := by unfold ack1; split <;> simp
    omega
theorem acksL_len (i0 : Int) (wl : List Wt) (gl : List Gt) (t0 : Int) : (acksL i0 wl gl t0).length / 4 ≤ 12 := by
  unfold acksL
  split
  · rename_i h
    have h1 := clientB_le h
    have h2 := ackR_len i0 wl gl gl.length
    omega
  · simp
theorem retAck {w w' : World} {E n0 c0 : Nat} {A0 : Option Addr} {zs ys : List Int} (h : ys = zs) (R : Row w' w.heap.size E 4 A0 n0 c0 zs) (hb : Below w.heap.size w w') : RetRow w E 4 (ys.length / 4) ys (.returned (.slice A0 n0 c0)) w' := by
  subst h
  have := R.len
  rw [show ys.length / 4 = n0 by omega]
  exact RetRow.mk R hb
theorem row0q {w : World} {g lo : Nat} {E : TypeId} (h : Blk w g E #[]) (hlo : lo ≤ g) : Row w lo E 4 (some ⟨g, 0, none⟩) 0 0 [] :=
  h.row hlo (by simp [maxLen]) (by simp) (by simp) (fun j hj => absurd hj (by omega))
theorem cell_four_at (w : World) (x0 x1 x2 x3 : Value) (t : TypeId) (g : Nat) (hg : g = w.heap.size) : ∀ j u, [x0, x1, x2, x3][j]? = some u → (w.alloc (.cells #[x0, x1, x2, x3] t)).cell? ((⟨g, 0, none⟩ : Addr).add j) = some u := by
  intro j u hj
  subst hg
  match j, hj with
  | 0, hj => simp at hj; subst hj; simp [Addr.add]
  | 1, hj => simp at hj; subst hj; simp [Addr.add]
  | 2, hj => simp at hj; subst hj; simp [Addr.add]
  | 3, hj => simp at hj; subst hj; simp [Addr.add]
attribute [local go_sem] Ext.cell Ext.frozen
end Go.Proofs.Ytckbnfgdjdppfaa

/- NumbersState, the result by its parts. -/
import Derived.Test.YtodkcanhlpgpgaaN6
namespace Go.Proofs.Ytodkcanhlpgpgaa
set_option linter.unusedSimpArgs false
set_option linter.unusedVariables false
attribute [local go_sem] n_lt2 n_lt3 n_lt4 n_le2 n_le3
open Go.RowKit
/-- The parts of a state and a bool. -/
structure SParts (r : Stt × Bool) (ri rt rh re ru : Int) (rn rm : Nat) (rz ry : List Int) (rb : Bool) : Prop where
  i : r.1.i = ri
  t : r.1.t = rt
  h : r.1.h = rh
  e : r.1.e = re
  u : r.1.u = ru
  n : r.1.p.length = rn
  m : r.1.q.length = rm
  z : PR r.1.p = rz
  y : JB r.1.q = ry
  b : r.2 = rb
abbrev RetSB (w : World) (ri rt rh re ru : Int) (rn rm : Nat) (rz ry : List Int) (rb : Bool) (e : Ending) (w' : World) : Prop :=
  ∃ A c B d, e = .returned (.tuple #[.agg #[.int .i64 ri, .int .i64 rt, .slice A rn c, .slice B rm d, .int .i64 rh, .int .i64 re, .int .i64 ru], .bool rb]) ∧ Row w' w.heap.size 114 2 A rn c rz ∧ Row w' w.heap.size 70 5 B rm d ry ∧ (∀ a b, A = some a → B = some b → a.block ≠ b.block) ∧ Below w.heap.size w w'
theorem retSB_of {w : World} {r : Stt × Bool} {e : Ending} {w' : World} {ri rt rh re ru : Int} {rn rm : Nat} {rz ry : List Int} {rb : Bool} (hR : SParts r ri rt rh re ru rn rm rz ry rb) (h : RetStB w r.1 r.2 e w') : RetSB w ri rt rh re ru rn rm rz ry rb e w' := by
  obtain ⟨A, c, B, d, h1, h2, h3, h4, h5⟩ := h
  rw [hR.i, hR.t, hR.h, hR.e, hR.u, hR.n, hR.m, hR.b] at h1
  rw [hR.n, hR.z] at h2
  rw [hR.m, hR.y] at h3
  exact ⟨A, c, B, d, h1, h2, h3, h4, h5⟩
theorem specNumbersState_r (A : Option Addr) (n cap : Nat) (zs : List Int) (w : World) (hS : Sl w 1 A n zs) (hn : n ≤ maxLen) (hc : n ≤ cap) {ri rt rh re ru : Int} {rn rm : Nat} {rz ry : List Int} {rb : Bool} (hR : SParts (numR zs) ri rt rh re ru rn rm rz ry rb) :
    Calls Try.prog 28 #[.slice A n cap] w (RetSB w ri rt rh re ru rn rm rz ry rb) :=
  (specNumbersState_any A n cap zs w hS hn hc).mono fun _ _ h => retSB_of hR h
theorem numbersState_r (A : Option Addr) (n cap : Nat) (zs : List Int) (w : World) (hS : Sl w 1 A n zs) (hn : n ≤ 1048576) (hc : n ≤ cap) (hcm : cap ≤ maxLen) (hlt : LtB A w.heap.size) {ri rt rh re ru : Int} {rn rm : Nat} {rz ry : List Int} {rb : Bool} (hR : SParts (numR zs) ri rt rh re ru rn rm rz ry rb) :
    Calls Try.prog 30 #[.slice A n cap] w (RetSB w ri rt rh re ru rn rm rz ry rb) :=
  (numbersState_any A n cap zs w hS hn hc hcm hlt).mono fun _ _ h => retSB_of hR h
end Go.Proofs.Ytodkcanhlpgpgaa

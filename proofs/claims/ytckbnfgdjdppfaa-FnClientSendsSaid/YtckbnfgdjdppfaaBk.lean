/- Small lemmas for walks over several blocks: a block made at a known place, rows and slices behind a new block or a store elsewhere. No program in sight. -/
import Derived.Test.YtckbnfgdjdppfaaSet
import Derived.Test.YtckbnfgdjdppfaaNm
namespace Go.Proofs.Ytckbnfgdjdppfaa
set_option linter.unusedSimpArgs false
set_option linter.unusedVariables false
attribute [local go_sem] n_lt2 n_lt3 n_lt4 n_le2 n_le3
open Go.RowKit
theorem Blk.new_at (w : World) (e : TypeId) (cs : Array Value) (g : Nat) (hg : g = w.heap.size) : Blk (w.alloc (.cells cs e)) g e cs := by
  subst hg
  exact Blk.new w e cs
theorem Row.alloc {w : World} {lo : Nat} {e : TypeId} {s : Nat} {A : Option Addr} {n cap : Nat} {zs : List Int} (h : Row w lo e s A n cap zs) (o : Obj) : Row (w.alloc o) lo e s A n cap zs := World.ownsRow.alloc h o
theorem Row.drew {w : World} {lo : Nat} {e : TypeId} {s : Nat} {A : Option Addr} {n cap : Nat} {zs : List Int} (h : Row w lo e s A n cap zs) : Row w.drew lo e s A n cap zs := h
theorem Row.far {w : World} {lo : Nat} {e : TypeId} {s : Nat} {A : Option Addr} {n cap : Nat} {zs : List Int} (h : Row w lo e s A n cap zs) {p : Addr} (hp : ∀ a, A = some a → a.block ≠ p.block) (u : Value) : Row (w.setCell p u) lo e s A n cap zs :=
  h.keep (fun a ha => Below.heap_setCell w p u a.block (hp a ha))
theorem Sl.alloc {w : World} {s : Nat} {A : Option Addr} {n : Nat} {zs : List Int} (h : Sl w s A n zs) (o : Obj) : Sl (w.alloc o) s A n zs := h.below ((Below.refl _ _).alloc (Nat.le_refl _) o)
theorem Sl.far {w : World} {s : Nat} {A : Option Addr} {n : Nat} {zs : List Int} (h : Sl w s A n zs) {p : Addr} (hp : 0 < n → ∀ a, A = some a → a.block ≠ p.block) (u : Value) : Sl (w.setCell p u) s A n zs := by
  refine ⟨h.1, fun hn => ?_⟩
  obtain ⟨b, off, rfl, hb, hj⟩ := h.2 hn
  refine ⟨b, off, rfl, by simpa [World.setCell] using hb, fun j hjn => ?_⟩
  rw [World.cell?_of_block (Below.heap_setCell w p u b (hp hn _ rfl))]
  exact hj j hjn
theorem size_set (w : World) (p : Addr) (u : Value) : (w.setCell p u).heap.size = w.heap.size := by simp [World.setCell]
theorem Blk.wrote2 {w w' : World} {g p : Nat} {e : TypeId} {cs : Array Value} (h : Blk w g e cs) (hw : Wrote w w' (some ⟨p, 0, none⟩)) (hne : g ≠ p) : Blk w' g e cs :=
  (World.grownBy.block hw g h.lt (by simpa using hne)).trans h
end Go.Proofs.Ytckbnfgdjdppfaa

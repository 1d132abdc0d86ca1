/- Two rows written one behind the other; a row of the call's own among several. No program in sight. -/
import Derived.Test.YtckbnfgdjdppfaaBk
namespace Go.Proofs.Ytckbnfgdjdppfaa
set_option linter.unusedSimpArgs false
set_option linter.unusedVariables false
attribute [local go_sem] n_lt2 n_lt3 n_lt4 n_le2 n_le3
open Go.RowKit

/-- Only the rows at A and B (and new memory) have been written. -/
structure Wr2 (w w' : World) (A B : Option Addr) : Prop where
  os : w'.os = w.os
  tape : w'.tape = w.tape
  output : w'.output = w.output
  size : w.heap.size ≤ w'.heap.size
  block : ∀ k, k < w.heap.size → (∀ a, A = some a → a.block ≠ k) → (∀ b, B = some b → b.block ≠ k) → w'.heap[k]? = w.heap[k]?
theorem ne_map {A : Option Addr} {k : Nat} (h : ∀ a, A = some a → a.block ≠ k) : some k ≠ A.map (·.block) := by
  cases A with
  | none => simp
  | some a => simp only [Option.map_some, ne_eq, Option.some.injEq]; exact fun e => h a rfl e.symm
theorem Wr2.of {w v v1 w' : World} {A B : Option Addr} (h0 : Below w.heap.size w v) (h1 : Wrote v v1 A) (h2 : Wrote v1 w' B) : Wr2 w w' A B :=
  ⟨h2.os.trans (h1.os.trans h0.os), h2.tape.trans (h1.tape.trans h0.tape), h2.output.trans (h1.output.trans h0.output), Nat.le_trans h0.size (Nat.le_trans h1.size h2.size),
    fun k hk ha hb => ((World.grownBy.block h2 k (Nat.lt_of_lt_of_le (Nat.lt_of_lt_of_le hk h0.size) h1.size) (ne_map hb)).trans (World.grownBy.block h1 k (Nat.lt_of_lt_of_le hk h0.size) (ne_map ha))).trans (h0.block k hk)⟩
theorem Wr2.below {L : Nat} {a w w' : World} {A B : Option Addr} (h : Wr2 w w' A B) (h1 : Below L a w) (hL : L ≤ w.heap.size) (hA : ∀ x, A = some x → L ≤ x.block) (hB : ∀ x, B = some x → L ≤ x.block) : Below L a w' :=
  ⟨h.os.trans h1.os, h.tape.trans h1.tape, h.output.trans h1.output, Nat.le_trans h1.size h.size,
    fun k hk => (h.block k (Nat.lt_of_lt_of_le hk hL) (fun x hx => by have := hA x hx; omega) (fun x hx => by have := hB x hx; omega)).trans (h1.block k hk)⟩
theorem Row.wr2 {w w' : World} {lo : Nat} {e : TypeId} {s : Nat} {O A B : Option Addr} {n cap : Nat} {zs : List Int} (h : Row w lo e s O n cap zs) (hw : Wr2 w w' A B) (h1 : ∀ a b, O = some a → A = some b → a.block ≠ b.block) (h2 : ∀ a b, O = some a → B = some b → a.block ≠ b.block) : Row w' lo e s O n cap zs :=
  h.keep fun a ha => hw.block _ (h.lt a ha) (fun b hb e => h1 a b ha hb e.symm) (fun b hb e => h2 a b ha hb e.symm)
theorem Sl.wr2 {w w' : World} {s : Nat} {O A B : Option Addr} {n : Nat} {zs : List Int} (h : Sl w s O n zs) (hw : Wr2 w w' A B) (h1 : 0 < n → ∀ a b, O = some a → A = some b → a.block ≠ b.block) (h2 : 0 < n → ∀ a b, O = some a → B = some b → a.block ≠ b.block) : Sl w' s O n zs :=
  ⟨h.1, fun hn => by
    obtain ⟨b, off, rfl, hbl, hj⟩ := h.2 hn
    refine ⟨b, off, rfl, Nat.lt_of_lt_of_le hbl hw.size, fun j hjn => ?_⟩
    exact (World.cell?_of_block (a := ⟨b, off + j, none⟩) (hw.block b hbl (fun c hc e => h1 hn _ c rfl hc e.symm) (fun c hc e => h2 hn _ c rfl hc e.symm))).trans (hj j hjn)⟩
theorem Blk.wr2 {w w' : World} {g : Nat} {e : TypeId} {cs : Array Value} {A B : Option Addr} (h : Blk w g e cs) (hw : Wr2 w w' A B) (h1 : ∀ a, A = some a → a.block ≠ g) (h2 : ∀ a, B = some a → a.block ≠ g) : Blk w' g e cs :=
  (hw.block g h.lt h1 h2).trans h
theorem Blk.wroteA {w w' : World} {g : Nat} {e : TypeId} {cs : Array Value} {A : Option Addr} (h : Blk w g e cs) (hw : Wrote w w' A) (h1 : ∀ a, A = some a → a.block ≠ g) : Blk w' g e cs :=
  (World.grownBy.block hw g h.lt (ne_map h1)).trans h
/-- What mark leaves of a struct with two rows. -/
def RetMark2 (w : World) (lo E s : Nat) (A : Option Addr) (n c F t : Nat) (B : Option Addr) (m d : Nat) (k : Int) (e : Ending) (w' : World) : Prop :=
  e = .returned (.int .i64 (k + (n * s : Nat) + (m * t : Nat))) ∧ Row w' lo E s A n c (marks k (n * s)) ∧ Row w' lo F t B m d (marks (k + (n * s : Nat)) (m * t)) ∧ Wr2 w w' A B
end Go.Proofs.Ytckbnfgdjdppfaa

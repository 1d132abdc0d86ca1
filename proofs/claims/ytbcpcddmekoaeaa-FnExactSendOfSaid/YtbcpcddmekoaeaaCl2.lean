/- A Client argument, opened. -/
import Derived.Test.YtbcpcddmekoaeaaFlatF
import Derived.Test.YtbcpcddmekoaeaaProg
namespace Go.Proofs.Ytbcpcddmekoaeaa
set_option linter.unusedSimpArgs false
set_option linter.unusedVariables false
attribute [local go_sem] n_lt2 n_lt3 n_lt4 n_le2 n_le3
open Go.ChangeShapes Go.WideShapes Go.ChangeAt Go.RowKit Go.Deep
section
variable {H : Type} {enc : TypeId × Value → H} {w : World} {base : Nat} {spare : Nat → Bool} {held : Bool}
set_option maxRecDepth 100000 in
theorem open_Client {r : Reach} {b0 : Nat} {v : Value} {d : DataW H} {p : List MemPlace} (hv : Value.okWide Try.prog w r b0 25 v) (h : DataW.Trod enc Try.prog w base spare held 25 v d p) :
    ∃ (i0 : Int) (A : Option Addr) (n c : Nat) (zp : List Int) (B : Option Addr) (m dd : Nat) (zq : List Int) (t0 : Int), v = .agg #[.int .i64 i0, .slice A n c, .slice B m dd, .int .i64 t0] ∧ Sl w 7 A n zp ∧ n ≤ c ∧ c ≤ maxLen ∧ Sl w 4 B m zq ∧ m ≤ dd ∧ dd ≤ maxLen := by
  obtain ⟨cs, k, rfl, hl, hf⟩ := open_fields Try.underlying25 hv h
  obtain ⟨c0, c1, c2, c3, rfl⟩ := len4 (hl.trans (by kernel_rfl))
  obtain ⟨y0, e0⟩ := hf 0 _ rfl
  obtain ⟨y1, e1⟩ := hf 1 _ rfl
  obtain ⟨y2, e2⟩ := hf 2 _ rfl
  obtain ⟨y3, e3⟩ := hf 3 _ rfl
  obtain ⟨i0, h0, _⟩ := field_i64 Try.underlying2 e0
  obtain ⟨A, n, c, zp, h1, S1, n1, m1, _⟩ := trod_slice_flat 4 Try.underlying22 (by kernel_rfl) (show Try.prog.cellsOf 101 = 7 by kernel_rfl) (by decide) e1
  obtain ⟨B, m, dd, zq, h2, S2, n2, m2, _⟩ := trod_slice_flat 3 Try.underlying23 (by kernel_rfl) (show Try.prog.cellsOf 123 = 4 by kernel_rfl) (by decide) e2
  obtain ⟨t0, h3, _⟩ := field_i64 Try.underlying2 e3
  have q0 : Try.prog.cellsOf 2 = 1 := by kernel_rfl
  have q1 : Try.prog.cellsOf 22 = 1 := by kernel_rfl
  have q2 : Try.prog.cellsOf 23 = 1 := by kernel_rfl
  simp [q0, q1, q2] at h0 h1 h2 h3
  subst h0 h1 h2 h3
  exact ⟨i0, A, n, c, zp, B, m, dd, zq, t0, rfl, S1, n1, m1, S2, n2, m2⟩
end
end Go.Proofs.Ytbcpcddmekoaeaa

/- A State argument, opened. -/
import Derived.Test.YtodkcanhlpgpgaaFlatF
import Derived.Test.YtodkcanhlpgpgaaProg
namespace Go.Proofs.Ytodkcanhlpgpgaa
set_option linter.unusedSimpArgs false
set_option linter.unusedVariables false
attribute [local go_sem] n_lt2 n_lt3 n_lt4 n_le2 n_le3
open Go.ChangeShapes Go.WideShapes Go.ChangeAt Go.RowKit Go.Deep
theorem len7 {α : Type} {l : List α} (h : l.length = 7) : ∃ a b c d e f g, l = [a, b, c, d, e, f, g] := by
  match l, h with
  | [a, b, c, d, e, f, g], _ => exact ⟨a, b, c, d, e, f, g, rfl⟩
theorem len9 {α : Type} {l : List α} (h : l.length = 9) : ∃ a b c d e f g i j, l = [a, b, c, d, e, f, g, i, j] := by
  match l, h with
  | [a, b, c, d, e, f, g, i, j], _ => exact ⟨a, b, c, d, e, f, g, i, j, rfl⟩
section
variable {H : Type} {enc : TypeId × Value → H} {w : World} {base : Nat} {spare : Nat → Bool} {held : Bool}
set_option maxRecDepth 100000 in
theorem open_State {r : Reach} {b0 : Nat} {v : Value} {d : DataW H} {p : List MemPlace} (hv : Value.okWide Try.prog w r b0 27 v) (h : DataW.Trod enc Try.prog w base spare held 27 v d p) :
    ∃ (i0 t0 : Int) (A : Option Addr) (n c : Nat) (zp : List Int) (B : Option Addr) (m dd : Nat) (zq : List Int) (l0 l1 l2 : Int), v = .agg #[.int .i64 i0, .int .i64 t0, .slice A n c, .slice B m dd, .int .i64 l0, .int .i64 l1, .int .i64 l2] ∧ Sl w 2 A n zp ∧ n ≤ c ∧ c ≤ maxLen ∧ Sl w 5 B m zq ∧ m ≤ dd ∧ dd ≤ maxLen := by
  obtain ⟨cs, k, rfl, hl, hf⟩ := open_fields Try.underlying27 hv h
  obtain ⟨c0, c1, c2, c3, c4, c5, c6, rfl⟩ := len7 (hl.trans (by kernel_rfl))
  obtain ⟨y0, e0⟩ := hf 0 _ rfl
  obtain ⟨y1, e1⟩ := hf 1 _ rfl
  obtain ⟨y2, e2⟩ := hf 2 _ rfl
  obtain ⟨y3, e3⟩ := hf 3 _ rfl
  obtain ⟨y4, e4⟩ := hf 4 _ rfl
  obtain ⟨i0, h0, _⟩ := field_i64 Try.underlying2 e0
  obtain ⟨t0, h1, _⟩ := field_i64 Try.underlying2 e1
  obtain ⟨A, n, c, zp, h2, S1, n1, m1, _⟩ := trod_slice_flat 3 Try.underlying22 (by kernel_rfl) (show Try.prog.cellsOf 117 = 2 by kernel_rfl) (by decide) e2
  obtain ⟨B, m, dd, zq, h3, S2, n2, m2, _⟩ := trod_slice_flat 3 Try.underlying23 (by kernel_rfl) (show Try.prog.cellsOf 119 = 5 by kernel_rfl) (by decide) e3
  obtain ⟨zs, h4, hz, _⟩ := flat_trod 3 _ _ _ _ (by kernel_rfl) e4
  obtain ⟨l0, l1, l2, rfl⟩ := len3 (hz.trans (by kernel_rfl))
  have q0 : Try.prog.cellsOf 2 = 1 := by kernel_rfl
  have q1 : Try.prog.cellsOf 22 = 1 := by kernel_rfl
  have q2 : Try.prog.cellsOf 23 = 1 := by kernel_rfl
  have q3 : Try.prog.cellsOf 25 = 3 := by kernel_rfl
  simp [q0, q1, q2, q3] at h0 h1 h2 h3 h4
  obtain ⟨h4, h5, h6⟩ := h4
  subst h0 h1 h2 h3 h4 h5 h6
  exact ⟨i0, t0, A, n, c, zp, B, m, dd, zq, l0, l1, l2, rfl, S1, n1, m1, S2, n2, m2⟩
end
end Go.Proofs.Ytodkcanhlpgpgaa

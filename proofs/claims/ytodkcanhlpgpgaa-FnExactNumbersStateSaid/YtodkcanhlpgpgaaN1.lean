/- What NumbersState hands back. -/
import Derived.Test.YtodkcanhlpgpgaaNumL
import Derived.Test.YtodkcanhlpgpgaaSt1
import Derived.Test.YtodkcanhlpgpgaaCur2
import Derived.Test.YtodkcanhlpgpgaaTP
import Derived.Test.YtodkcanhlpgpgaaTJ
import Derived.Test.YtodkcanhlpgpgaaS1
import Derived.Test.YtodkcanhlpgpgaaWr2
namespace Go.Proofs.Ytodkcanhlpgpgaa
set_option linter.unusedSimpArgs false
set_option linter.unusedVariables false
attribute [local go_sem] n_lt2 n_lt3 n_lt4 n_le2 n_le3
open Go.RowKit
/-- A state of the call's own and a bool. -/
abbrev RetStB (w : World) (s : Stt) (b : Bool) (e : Ending) (w' : World) : Prop :=
  ∃ A c B d, e = .returned (.tuple #[.agg #[.int .i64 s.i, .int .i64 s.t, .slice A s.p.length c, .slice B s.q.length d, .int .i64 s.h, .int .i64 s.e, .int .i64 s.u], .bool b]) ∧ Row w' w.heap.size 114 2 A s.p.length c (PR s.p) ∧ Row w' w.heap.size 70 5 B s.q.length d (JB s.q) ∧ (∀ a b, A = some a → B = some b → a.block ≠ b.block) ∧ Below w.heap.size w w'
theorem retSt_nil {w w' : World} (h : Below w.heap.size w w') : RetStB w Stt.zero false (.returned (.tuple #[.agg #[.int .i64 0, .int .i64 0, .slice none 0 0, .slice none 0 0, .int .i64 0, .int .i64 0, .int .i64 0], .bool false])) w' :=
  ⟨none, 0, none, 0, rfl, Row.nil _ _ _ _, Row.nil _ _ _ _, (fun a b ha => by cases ha), h⟩
theorem rowp' {w w' : World} {lo E s : Nat} {A : Option Addr} {n c p : Nat} {zs : List Int} (R : Row w lo E s A n c zs) (hw : Wrote w w' (some ⟨p, 0, none⟩)) (hp : p < lo) : Row w' lo E s A n c zs :=
  R.wrote hw (fun a b ha hb => by obtain rfl := Option.some.inj hb; have := R.ge a ha; show a.block ≠ p; omega)
theorem seven_sets {w : World} {lo g E s : Nat} {A : Option Addr} {n c : Nat} {zs : List Int} (R : Row w lo E s A n c zs) (h : ∀ a, A = some a → a.block ≠ g) (y0 y1 y2 y3 y4 y5 y6 : Value) : Row (((((((w.setCell ⟨g, 0, none⟩ y0).setCell ⟨g, 1, none⟩ y1).setCell ⟨g, 2, none⟩ y2).setCell ⟨g, 3, none⟩ y3).setCell ⟨g, 4, none⟩ y4).setCell ⟨g, 5, none⟩ y5).setCell ⟨g, 6, none⟩ y6) lo E s A n c zs :=
  ((((((R.far (p := ⟨g, 0, none⟩) h y0).far (p := ⟨g, 1, none⟩) h y1).far (p := ⟨g, 2, none⟩) h y2).far (p := ⟨g, 3, none⟩) h y3).far (p := ⟨g, 4, none⟩) h y4).far (p := ⟨g, 5, none⟩) h y5).far (p := ⟨g, 6, none⟩) h y6
theorem seven_below {w0 w : World} {lo g : Nat} (B : Below lo w0 w) (h : lo ≤ g) (y0 y1 y2 y3 y4 y5 y6 : Value) : Below lo w0 (((((((w.setCell ⟨g, 0, none⟩ y0).setCell ⟨g, 1, none⟩ y1).setCell ⟨g, 2, none⟩ y2).setCell ⟨g, 3, none⟩ y3).setCell ⟨g, 4, none⟩ y4).setCell ⟨g, 5, none⟩ y5).setCell ⟨g, 6, none⟩ y6) :=
  ((((((B.setCell (p := ⟨g, 0, none⟩) h y0).setCell (p := ⟨g, 1, none⟩) h y1).setCell (p := ⟨g, 2, none⟩) h y2).setCell (p := ⟨g, 3, none⟩) h y3).setCell (p := ⟨g, 4, none⟩) h y4).setCell (p := ⟨g, 5, none⟩) h y5).setCell (p := ⟨g, 6, none⟩) h y6
theorem sl_part {w : World} {b off n : Nat} {zs : List Int} (h : Sl w 1 (some ⟨b, off, none⟩) n zs) (k m : Nat) (hkm : k + m ≤ n) : Sl w 1 (some ⟨b, off + k, none⟩) m ((zs.drop k).take m) := by
  have hl := h.len
  refine ⟨by simp; omega, fun hm => ?_⟩
  obtain ⟨b', off', hA, hb, hc⟩ := h.at_ (by omega)
  injection hA with hA
  injection hA with h1 h2
  subst h1 h2
  refine ⟨b, off + k, rfl, hb, fun j hj => ?_⟩
  have h3 := hc (k + j) (by omega)
  rw [show off + k + j = off + (k + j) by omega, h3]
  congr 2
  simp [List.getD, List.getElem?_take, List.getElem?_drop, show j < m by omega]
theorem row1_at {w : World} {lo E : Nat} {A : Option Addr} {n c : Nat} {zs : List Int} (R : Row w lo E 1 A n c zs) (hn : 0 < n) : ∃ b off, A = some ⟨b, off, none⟩ ∧ b < w.heap.size ∧ ∀ j, j < n → w.cell? ⟨b, off + j, none⟩ = some (.int .i64 (zs.getD j 0)) := by
  obtain ⟨b, off, h1, h2, h3⟩ := R.sl.at_ hn
  exact ⟨b, off, h1, h2, fun j hj => h3 j (by omega)⟩
end Go.Proofs.Ytodkcanhlpgpgaa

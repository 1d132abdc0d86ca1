/- The law FnExactJobAdded: for every input it returns true and leaves its arguments as they were. No condition. -/
import Derived.Test.YthhnbplmhbbnnaaRows
import Derived.Test.YthhnbplmhbbnnaaWExactJobAdded
import Derived.Test.YthhnbplmhbbnnaaFlatS
namespace Go.Proofs.Ythhnbplmhbbnnaa.lawExactJobAdded
set_option linter.unusedSimpArgs false
set_option linter.unusedVariables false
attribute [local go_sem] n_lt2 n_lt3 n_lt4 n_le2 n_le3
open Go.ChangeShapes Go.WideShapes Go.ChangeAt Go.RowKit

theorem own : ownKnob Try.prog.godebug = none := by kernel_rfl
set_option maxRecDepth 100000 in
theorem lifted (os : Os) (started : os.Started) (H : Type) (enc : TypeId × Value → H) :
    ReturnsInHanded {} Try.checked os 8 .any (Rows.fnExactJobAddedSpec.pre6 enc Try.prog Try.f8 Rows.fnExactJobAddedRow.domain false) (Rows.fnExactJobAddedSpec.post enc Try.prog Try.f8 false true false false) := by
  refine returnsInHanded_of_change (C := Try.checked) own started (by kernel_rfl) Try.func8
    (ChangeSpec.witness6 (enc := enc) (C := Try.checked) false ⟨#[], #[.slice none 0 0, .agg #[.int .i64 0, .int .i64 0, .int .i64 0, .int .i64 0, .int .i64 0]], []⟩ 8 (by kernel_rfl) (by kernel_rfl) (by kernel_rfl) (by kernel_rfl)) ?_
  intro W base args ds gs before hval0 hW hcnd _
  have hval : ∀ (j : Nat) t v, Try.f8.params[j]? = some t → args[j]? = some v → Value.okWide Try.prog W .any base t v := hval0
  have hW' := hW
  obtain ⟨p, q, hA0, hV, rfl, hfz, hnd⟩ := hW
  have hA : DataW.TrodAll enc Try.prog W 0 (fun _ => true) true Try.f8.params.toList args.toList ds p := hA0
  rw [Try.params8] at hA hval
  obtain ⟨v0, v1, d0, d1, p0, p1, rfl, rfl, rfl, h0, h1⟩ := trodAll_two hA
  obtain ⟨rfl, rfl⟩ := trodVars_none hV
  obtain ⟨A0, n0, cap0, zs0, rfl, hS0, hn0, hc0, hi0⟩ := open_slice_flat 3 Try.underlying44 (by kernel_rfl) (show Try.prog.cellsOf 50 = 5 by kernel_rfl) (by decide) (hval 0 44 v0 rfl rfl) h0
  obtain ⟨zs1, rfl, hz1, hi1⟩ := open_flat 3 Try.underlying50 (by kernel_rfl) (hval 1 50 v1 rfl rfl) h1
  obtain ⟨a1x0, a1x1, a1x2, a1x3, a1x4, rfl⟩ := len5 (hz1.trans (by kernel_rfl))
  clear hA0 hval0
  refine (law_ExactJobAdded A0 n0 cap0 zs0 a1x0 a1x1 a1x2 a1x3 a1x4 W hS0 hn0 hc0).mono fun e' W' ⟨he, hg⟩ => ?_
  subst he
  exact ⟨_, rfl, law_post (t := 4) (by kernel_rfl) (by kernel_rfl) (by kernel_rfl) Try.underlying4 rfl hW' rfl hg⟩

theorem proved : Rows.FnExactJobAddedSaid :=
  OpenClaim.holds_of_wide 8 Try.f8 rfl rfl rfl rfl rfl rfl rfl ⟨rfl, rfl, rfl, rfl, rfl⟩ rfl rfl rfl rfl rfl (by kernel_rfl) Try.func8 (by kernel_rfl)
    (of_decide_eq_true (by kernel_rfl)) (by unfold Func.isWrapper; first | (rw [if_pos (by decide +kernel)]; kernel_rfl) | (rw [if_neg (by decide +kernel)]; exact ⟨rfl, rfl⟩))
    (fun os started H enc _ => lifted os started H enc)
#print axioms proved
end Go.Proofs.Ythhnbplmhbbnnaa.lawExactJobAdded

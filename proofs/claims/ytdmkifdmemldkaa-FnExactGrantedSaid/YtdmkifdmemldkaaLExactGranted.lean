/- The law FnExactGranted: for every input it returns true and leaves its arguments as they were. No condition. -/
import Derived.Test.YtdmkifdmemldkaaRows
import Derived.Test.YtdmkifdmemldkaaLease6
import Derived.Test.YtdmkifdmemldkaaFlat
namespace Go.Proofs.Ytdmkifdmemldkaa.lawExactGranted
set_option linter.unusedSimpArgs false
set_option linter.unusedVariables false
attribute [local go_sem] n_lt2 n_lt3 n_lt4 n_le2 n_le3
open Go.ChangeShapes Go.WideShapes Go.ChangeAt Go.RowKit

theorem own : ownKnob Try.prog.godebug = none := by kernel_rfl
set_option maxRecDepth 100000 in
theorem lifted (os : Os) (started : os.Started) (H : Type) (enc : TypeId × Value → H) :
    ReturnsInHanded {} Try.checked os 12 .any (Rows.fnExactGrantedSpec.pre6 enc Try.prog Try.f12 Rows.fnExactGrantedRow.domain false) (Rows.fnExactGrantedSpec.post enc Try.prog Try.f12 false true false false) := by
  refine returnsInHanded_of_change (C := Try.checked) own started (by kernel_rfl) Try.func12
    (ChangeSpec.witness6 (enc := enc) (C := Try.checked) false ⟨#[], #[.agg #[.int .i64 0, .int .i64 0, .int .i64 0], .int .i64 0, .int .i64 0, .int .i64 0], []⟩ 8 (by kernel_rfl) (by kernel_rfl) (by kernel_rfl) (by kernel_rfl)) ?_
  intro W base args ds gs before hval0 hW hcnd _
  have hval : ∀ (j : Nat) t v, Try.f12.params[j]? = some t → args[j]? = some v → Value.okWide Try.prog W .any base t v := hval0
  have hW' := hW
  obtain ⟨p, q, hA0, hV, rfl, hfz, hnd⟩ := hW
  have hA : DataW.TrodAll enc Try.prog W 0 (fun _ => true) true Try.f12.params.toList args.toList ds p := hA0
  rw [Try.params12] at hA hval
  obtain ⟨v0, v1, v2, v3, d0, d1, d2, d3, p0, p1, p2, p3, rfl, rfl, rfl, h0, h1, h2, h3⟩ := trodAll_four hA
  obtain ⟨rfl, rfl⟩ := trodVars_none hV
  obtain ⟨zs0, rfl, hz0, hi0⟩ := open_flat 3 Try.underlying29 (by kernel_rfl) (hval 0 29 v0 rfl rfl) h0
  obtain ⟨a0x0, a0x1, a0x2, rfl⟩ := len3 (hz0.trans (by kernel_rfl))
  obtain ⟨a1, rfl, hi1⟩ := open_i64 Try.underlying2 (hval 1 2 v1 rfl rfl) h1
  obtain ⟨a2, rfl, hi2⟩ := open_i64 Try.underlying2 (hval 2 2 v2 rfl rfl) h2
  obtain ⟨a3, rfl, hi3⟩ := open_i64 Try.underlying2 (hval 3 2 v3 rfl rfl) h3
  clear hA0 hval0
  refine (law_ExactGranted a0x0 a0x1 a0x2 a1 a2 a3 W).mono fun e' W' ⟨he, hg⟩ => ?_
  subst he
  exact ⟨_, rfl, law_post (t := 4) (by kernel_rfl) (by kernel_rfl) (by kernel_rfl) Try.underlying4 rfl hW' rfl hg⟩

theorem proved : Rows.FnExactGrantedSaid :=
  OpenClaim.holds_of_wide 12 Try.f12 rfl rfl rfl rfl rfl rfl rfl ⟨rfl, rfl, rfl, rfl, rfl⟩ rfl rfl rfl rfl rfl (by kernel_rfl) Try.func12 (by kernel_rfl)
    (of_decide_eq_true (by kernel_rfl)) (by unfold Func.isWrapper; first | (rw [if_pos (by decide +kernel)]; kernel_rfl) | (rw [if_neg (by decide +kernel)]; exact ⟨rfl, rfl⟩))
    (fun os started H enc _ => lifted os started H enc)
#print axioms proved
end Go.Proofs.Ytdmkifdmemldkaa.lawExactGranted

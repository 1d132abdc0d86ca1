/- The law FnExactEffectOf: for every input it returns true and leaves its arguments as they were. No condition. -/
import Derived.Test.YtokklkmibjpjnaaGreatBd6
import Derived.Test.YtokklkmibjpjnaaGreatWExactEffectOfb
import Derived.Test.YtokklkmibjpjnaaGreatRows
namespace Go.Proofs.YtokklkmibjpjnaaGreat.lawExactEffectOf
set_option linter.unusedSimpArgs false
set_option linter.unusedVariables false
attribute [local go_sem] n_lt2 n_lt3 n_lt4 n_le2 n_le3
open Go.ChangeShapes Go.WideShapes Go.ChangeAt Go.RowKit

theorem own : ownKnob Tryz.prog.godebug = none := by kernel_rfl
set_option maxRecDepth 100000 in
theorem lifted (os : Os) (started : os.Started) (H : Type) (enc : TypeId × Value → H) :
    ReturnsInHanded {} Tryz.checked os 4 .any (Rows.fnExactEffectOfSpec.pre6 enc Tryz.prog Tryz.f4 Rows.fnExactEffectOfRow.domain false) (Rows.fnExactEffectOfSpec.post enc Tryz.prog Tryz.f4 false true false false) := by
  refine returnsInHanded_of_change (C := Tryz.checked) own started (by kernel_rfl) Tryz.func4
    (ChangeSpec.witness6 (enc := enc) (C := Tryz.checked) false ⟨#[], #[.agg #[.int .i64 0, .int .i64 0, .slice none 0 0, .slice none 0 0, .int .i64 0, .int .i64 0, .int .i64 0], .agg #[.int .i64 0, .int .i64 0, .int .i64 0, .int .i64 0, .int .i64 0, .int .i64 0, .int .i64 0, .int .i64 0, .int .i64 0]], []⟩ 8 (by kernel_rfl) (by kernel_rfl) (by kernel_rfl) (by kernel_rfl)) ?_
  intro W base args ds gs before hval0 hW hcnd _
  have hval : ∀ (j : Nat) t v, Tryz.f4.params[j]? = some t → args[j]? = some v → Value.okWide Tryz.prog W .any base t v := hval0
  have hW' := hW
  obtain ⟨p, q, hA0, hV, rfl, hfz, hnd⟩ := hW
  have hA : DataW.TrodAll enc Tryz.prog W 0 (fun _ => true) true Tryz.f4.params.toList args.toList ds p := hA0
  rw [Tryz.params4] at hA hval
  obtain ⟨v0, v1, d0, d1, p0, p1, rfl, rfl, rfl, h0, h1⟩ := trodAll_two hA
  obtain ⟨rfl, rfl⟩ := trodVars_none hV
  obtain ⟨i0x0, t0x0, A0, n0, c0, zp0, B0, m0, d0_, zq0, l0x0, l1x0, l2x0, rfl, hP0, hn0, hc0, hQ0, hm0, hd0⟩ := open_State (hval 0 27 v0 rfl rfl) h0
  obtain ⟨zs1, rfl, hz1, hi1⟩ := open_flat 4 Tryz.underlying31 (by kernel_rfl) (hval 1 31 v1 rfl rfl) h1
  obtain ⟨a1x0, a1x1, a1x2, a1x3, a1x4, a1x5, a1x6, a1x7, a1x8, rfl⟩ := len9 (hz1.trans (by kernel_rfl))
  clear hA0 hval0
  refine (law_ExactEffectOf A0 n0 c0 B0 m0 d0_ i0x0 t0x0 l0x0 l1x0 l2x0 zp0 zq0 a1x0 a1x1 a1x2 a1x3 a1x4 a1x5 a1x6 a1x7 a1x8 W hP0 hn0 hc0 hQ0 hm0 hd0).mono fun e' W' ⟨he, hg⟩ => ?_
  subst he
  exact ⟨_, rfl, law_post (t := 4) (by kernel_rfl) (by kernel_rfl) (by kernel_rfl) Tryz.underlying4 rfl hW' rfl hg⟩

theorem proved : Rows.FnExactEffectOfSaid :=
  OpenClaim.holds_of_wide 4 Tryz.f4 rfl rfl rfl rfl rfl rfl rfl ⟨rfl, rfl, rfl, rfl, rfl⟩ rfl rfl rfl rfl rfl (by kernel_rfl) Tryz.func4 (by kernel_rfl)
    (of_decide_eq_true (by kernel_rfl)) (by unfold Func.isWrapper; first | (rw [if_pos (by decide +kernel)]; kernel_rfl) | (rw [if_neg (by decide +kernel)]; exact ⟨rfl, rfl⟩))
    (fun os started H enc _ => lifted os started H enc)
#print axioms proved
end Go.Proofs.YtokklkmibjpjnaaGreat.lawExactEffectOf

/- The orders that the job lists are sorted by: cmp.Compare at int64, the closures. -/
import Derived.Test.YtgpllffiahccjaaK1
import Derived.Test.YtgpllffiahccjaaKS
namespace Go.Proofs.Ytgpllffiahccjaa
set_option linter.unusedSimpArgs false
set_option linter.unusedVariables false
attribute [local go_sem] n_lt2 n_lt3 n_lt4 n_le2 n_le3
open Go.RowKit Go.Sort Go.Shelf
attribute [local go_sem] Ext.cell Ext.frozen
theorem isNaN64_any (x : Int) (w : World) : Calls Try.prog 148 #[.int .i64 x] w fun e w' => e = .returned (.bool false) ∧ w = w' := by
  go_enter Try.func148, Try.ntmps148
  go_wp2
  go_ret
  exact ⟨ret_bool (by simp), rfl⟩
theorem compare64_any (x y : Int) (w : World) : Calls Try.prog 121 #[.int .i64 x, .int .i64 y] w fun e w' => e = .returned (.int .i64 (Lib.compareInt x y)) ∧ w = w' := by
  unfold Lib.compareInt
  by_cases h1 : x < y
  · rw [if_pos h1]
    go_enter Try.func121, Try.ntmps121
    go_wp2_with ((go_at_call 148; refine (isNaN64_any _ _).mono ?_; rintro e w' ⟨rfl, rfl⟩))
    go_ret
    exact ⟨rfl, rfl⟩
  · rw [if_neg h1]
    by_cases h2 : y < x
    · rw [if_pos h2]
      go_enter Try.func121, Try.ntmps121
      go_wp2_with ((go_at_call 148; refine (isNaN64_any _ _).mono ?_; rintro e w' ⟨rfl, rfl⟩))
      go_ret
      exact ⟨rfl, rfl⟩
    · rw [if_neg h2]
      go_enter Try.func121, Try.ntmps121
      go_wp2_with ((go_at_call 148; refine (isNaN64_any _ _).mono ?_; rintro e w' ⟨rfl, rfl⟩))
      go_ret
      exact ⟨rfl, rfl⟩
def flJ (j : Jb) : List Int := [j.i, j.d, j.k, j.v, j.f]
set_option maxHeartbeats 1000000 in
theorem firedLt_any (x y : Jb) (W : World) : Calls Try.prog 125 #[.agg (encI flJ x).toArray, .agg (encI flJ y).toArray] W fun e w' => e = .returned (.int .i64 (Lib.compareInt x.f y.f)) ∧ ∃ q os', w' = grow (W.drewN q) os' := by
  have hcon := fun W' => compare64_any x.f y.f W'
  generalize Lib.compareInt x.f y.f = r at hcon ⊢
  obtain ⟨x0, x1, x2, x3, x4⟩ := x
  obtain ⟨y0, y1, y2, y3, y4⟩ := y
  show Calls Try.prog 125 #[.agg #[.int .i64 x0, .int .i64 x1, .int .i64 x2, .int .i64 x3, .int .i64 x4], .agg #[.int .i64 y0, .int .i64 y1, .int .i64 y2, .int .i64 y3, .int .i64 y4]] W _
  go_enter Try.func125, Try.ntmps125
  go_wp2_with (go_at_call 121; refine (hcon _).mono ?_; rintro e w' ⟨rfl, rfl⟩)
  go_ret
  exact ⟨rfl, 0, _, by rw [alloc_eq_grow, alloc_eq_grow, grow_grow]; rfl⟩
theorem isAggJob (w : World) : (isAgg 68).run Try.prog w = .ok true w := by kernel_rfl
theorem sizeOfJob (w : World) : (Go.sizeOf 68).run Try.prog w = .ok 5 w := by kernel_rfl
theorem ltJ_swo : SWO (ltOf fun x y : Jb => Lib.compareInt x.f y.f) := by
  constructor
  · intro x; unfold ltOf; rw [decide_eq_false]; rw [compareInt_lt]; omega
  · intro x y z h1 h2; unfold ltOf at *; rw [decide_eq_true_eq, compareInt_lt] at *; omega
  · intro x y z h1 h2; unfold ltOf at *; rw [decide_eq_false_iff_not, compareInt_lt] at *; omega
set_option maxHeartbeats 1000000 in
/-- slices.SortFunc on a row of jobs of the call's own, by Fired. -/
theorem sortFired_any (lo g n cap : Nat) (l : List Jb) (w : World) (hl : l.length = n) (hn : n ≤ 12) (R : Row w lo 68 5 (some ⟨g, 0, none⟩) n cap (JB l)) :
    Calls Try.prog 124 #[.slice (some ⟨g, 0, none⟩) n cap, .func (.func 125) #[] #[]] w fun e w' => e = .returned (.tuple #[]) ∧ ∃ s : List Jb, s.Perm l ∧ s.Pairwise (fun a b => ¬ b.f < a.f) ∧ Row w' lo 68 5 (some ⟨g, 0, none⟩) n cap (JB s) ∧ Wrote w w' (some ⟨g, 0, none⟩) := by
  have eg : ∀ args w, (callFunc 125 args).run Try.prog w = .ok (.enter 125 args) w := enters_of Try.func125 (by kernel_rfl) rfl
  have hk : ∀ x, (flJ x).length = 5 := fun _ => rfl
  have hsz : l.toArray.size = n := by simpa using hl
  have hcon := AnyQ.slices_SortFunc_small_sorted sortJob 5 isAggJob sizeOfJob (encI flJ) (fun x => by unfold encI; rw [ints_length]; exact hk x) (fun x v hv => ints_oneCell' _ v hv) (fun x y => Lib.compareInt x.f y.f) 125 #[] ltJ_swo g 0 cap l.toArray w eg (fun _ _ _ _ x y => firedLt_any x y _) (holdsK_of flJ 5 hk (by decide) hl R) (R.lt _ rfl) (by rw [hsz]; exact hn) hlenX
  rw [hsz] at hcon
  refine hcon.mono ?_
  rintro e w' ⟨rfl, d, m, os, hp, hs, rfl⟩
  have hdn : d.size = n := by rw [hp.1]; exact hsz
  obtain ⟨r1, r2⟩ := row_sorted flJ 5 hk (by decide) R m d os hdn
  rw [← hsz] at hp
  refine ⟨rfl, d.toList, by simpa using permIn_all hp, ?_, r1, r2⟩
  have := sortedIn_all hdn.symm hs
  refine this.imp (fun {a b} h => ?_)
  unfold ltOf at h
  rw [decide_eq_false_iff_not, compareInt_lt] at h
  exact h
end Go.Proofs.Ytgpllffiahccjaa

/- Job lists: JobsOk, the program's. -/
import Derived.Test.YtgpllffiahccjaaJ1
import Derived.Test.YtgpllffiahccjaaM1
import Derived.OwnWalk
import Derived.Maps.OwnOps
namespace Go.Proofs.Ytgpllffiahccjaa
set_option linter.unusedSimpArgs false
set_option linter.unusedVariables false
attribute [local go_sem] n_lt2 n_lt3 n_lt4 n_le2 n_le3
open Go.RowKit
theorem firedBefore_succ (l : List Jb) (k : Nat) (x : Int) : firedBefore l (k + 1) x = (firedBefore l k x || decide ((l.getD k default).f = x)) := by
  unfold firedBefore
  rw [List.range_succ, List.any_append]
  simp
attribute [local go_sem] Ext.cell Ext.frozen

theorem closed_any (a b c d e : Int) (w : World) :
    Calls Try.prog 115 #[.agg #[.int .i64 a, .int .i64 b, .int .i64 c, .int .i64 d, .int .i64 e]] w fun e' w' => e' = .returned (.bool (!decide (e = 0))) ∧ Below w.heap.size w w' := by
  go_enter Try.func115, Try.ntmps115
  go_wp2
  go_ret
  exact ⟨ret_bool (by (first | rfl | (simp [*]; done) | (subst_vars; simp [*]; done) | (simp_all; done))), by (repeat' (first | (with_reducible exact Below.refl _ _) | (with_reducible assumption) | (with_reducible refine Below.alloc ?_ ?_ _) | (with_reducible refine Below.drew ?_) | (with_reducible refine Below.setCell ?_ ?_ _) | (with_reducible refine bstep (by assumption) ?_ ?_) | (with_reducible exact Nat.le_refl _) | omega | (simp [*]; done) | (simp [*]; omega)))⟩
theorem zeroB (w : World) : (zeroValue 4).run Try.prog w = .ok (.bool false) w := by kernel_rfl
set_option maxRecDepth 100000 in
set_option maxHeartbeats 4000000 in
theorem jobsOk_any (A : Option Addr) (n cap : Nat) (l : List Jb) (w : World) (hS : Sl w 5 A n (JB l)) (hl : l.length = n) (hn : n ≤ maxLen) :
    Calls Try.prog 50 #[.slice A n cap] w fun e' w' => e' = .returned (.bool (jobsB l)) ∧ Below w.heap.size w w' := by
  unfold maxLen at hn
  by_cases h8 : 8 < n
  · have hv : jobsB l = false := jobsB_long (by omega)
    have h8' : (8 : Int) < (n : Int) := by omega
    clear hS hl
    go_enter Try.func50, Try.ntmps50
    go_wp2
    go_ret
    exact ⟨ret_bool hv.symm, Below.refl _ _⟩
  have h8' : (n : Int) ≤ 8 := by omega
  have hL := Lib.hid hl
  have HS := Lib.hid hS
  clear hl hS h8
  have hmm := @run_makeMap Try.prog
  go_enter Try.func50, Try.ntmps50
  go_wp2
  go_loopw [12] (fun i wr => ∃ k : Nat, k ≤ n ∧ i = .int .i64 k ∧ Below w.heap.size w wr ∧ Hid (∀ j, j < k → jobAtB l j = true) ∧ Hid (Marked Try.prog 2 4 wr w.heap.size k (firedBefore l k))) (fun i _ => n - (intOf i).toNat)
  case atStart => exact ⟨0, Nat.zero_le _, rfl, (Below.refl _ _).alloc (Nat.le_refl _) _, Lib.hid (fun j hj => absurd hj (by omega)), Lib.hid (Marked.made w _ _ _)⟩
  case round =>
    obtain ⟨k, hk, rfl, hbl, hall, HU⟩ := hrel
    by_cases hlt : k < n
    · obtain ⟨b, off, rfl, hb, hcell⟩ := sl_jobs HS.out (by omega)
      obtain ⟨h0, h1, h2, h3, h4⟩ := hcell k hlt
      have g0 := (hcell (k - 1) (by omega)).1
      clear hcell
      rw [← hbl.cell (by exact hb)] at h0 h1 h2 h3 h4 g0
      generalize hp : l.getD k default = p at h0 h1 h2 h3 h4
      generalize hp0 : l.getD (k - 1) default = p0 at g0
      obtain ⟨x0, x1, x2, x3, x4⟩ := p
      obtain ⟨y0, y1, y2, y3, y4⟩ := p0
      simp only at h0 h1 h2 h3 h4 g0
      have HP := Lib.hid (And.intro hp hp0)
      clear hp hp0
      have hbr : b < wr.heap.size := Nat.lt_of_lt_of_le hb hbl.size
      have hB0 := Lib.hid (Nat.le_trans (Nat.le_succ _) (show w.heap.size + 1 ≤ wr.heap.size from HU.out.lt))
      by_cases hj : jobB x0 x1 x2 x3 x4 = true
      · have hC : ∀ w0, Calls Try.prog 113 #[.agg #[.int .i64 x0, .int .i64 x1, .int .i64 x2, .int .i64 x3, .int .i64 x4]] w0 fun e' w' => e' = .returned (.bool true) ∧ Below w0.heap.size w0 w' := fun w0 => by
          have := jobOk_any x0 x1 x2 x3 x4 w0
          rwa [hj] at this
        have HJ := Lib.hid hj
        clear hj
        by_cases hbad : 0 < k ∧ x0 ≤ y0
        · obtain ⟨hk0, hxy⟩ := hbad
          have hk0' : (0 : Int) < (k : Int) := by omega
          go_wp2
          ((refine wp_region_ext (by kernel_rfl) (by kernel_rfl) ?_); (repeat (any_goals (first | go_big_quiet_step ((go_at_call 113; exact quiet_ext (hC _))) | (refine wpQuiet_step (fun K hK => ?_); go_simp; split <;> (refine hK _ ?_; clear hK K)) | quiet_step ((go_at_call 113; exact quiet_ext (hC _)))))); (all_goals (refine wpQuiet_nil ?_; rintro _ ⟨z, rfl⟩; have hb' := z.h; generalize z.w = w1 at hb' ⊢; clear z; (first | (have hb2 := bstep hb' hb hb.size; clear hb' hcb hfb hz1 hz2 hz3 hz4 hb; have hb := hb2; clear hb2) | (have hb := hb'; clear hb')); obtain ⟨hcb, hfb, hz1, hz2, hz3, hz4⟩ := bcell hb; (try simp only [World.size_alloc, World.size_setCell, World.size_drew, Nat.lt_add_one_iff, Nat.add_assoc, Nat.reduceAdd] at hz1 hz2 hz3 hz4))))
          all_goals go_wp2
          all_goals go_ret
          all_goals exact ⟨ret_bool (jobsB_false (hL.out.symm ▸ hlt) (jobAtB_2 hk0 (by rw [HP.out.1, HP.out.2]; exact hxy))).symm, bstep hb (hbl.alloc hbl.size _) (by have := hbl.size; simp; omega)⟩
        · have HG := Lib.hid (show k = 0 ∨ y0 < x0 by omega)
          rcases Nat.eq_zero_or_pos k with hk0 | hk0
          · have hk0' : ¬ (0 : Int) < (k : Int) := by omega
            clear hk0 hbad
            by_cases hx : x4 = 0
            · have hx4 : (!decide (x4 = 0)) = false := by simpa using hx
              have hD : ∀ w0, Calls Try.prog 115 #[.agg #[.int .i64 x0, .int .i64 x1, .int .i64 x2, .int .i64 x3, .int .i64 x4]] w0 fun e' w' => e' = .returned (.bool false) ∧ Below w0.heap.size w0 w' := fun w0 => by
                have := closed_any x0 x1 x2 x3 x4 w0
                rwa [hx4] at this
              have hxl : x4 ≤ 0 := by omega
              clear hx
              go_wp2
              ((refine wp_region_ext (by kernel_rfl) (by kernel_rfl) ?_); (repeat (any_goals (first | go_big_quiet_step (first | (go_at_call 113; exact quiet_ext (hC _)) | (go_at_call 115; exact quiet_ext (hD _))) | (refine wpQuiet_step (fun K hK => ?_); go_simp; split <;> (refine hK _ ?_; clear hK K)) | quiet_step (first | (go_at_call 113; exact quiet_ext (hC _)) | (go_at_call 115; exact quiet_ext (hD _)))))); (all_goals (refine wpQuiet_nil ?_; rintro _ ⟨z, rfl⟩; have hb' := z.h; generalize z.w = w1 at hb' ⊢; clear z; (first | (have hb2 := bstep hb' hb hb.size; clear hb' hcb hfb hz1 hz2 hz3 hz4 hb; have hb := hb2; clear hb2) | (have hb := hb'; clear hb')); obtain ⟨hcb, hfb, hz1, hz2, hz3, hz4⟩ := bcell hb; (try simp only [World.size_alloc, World.size_setCell, World.size_drew, Nat.lt_add_one_iff, Nat.add_assoc, Nat.reduceAdd] at hz1 hz2 hz3 hz4))))
              all_goals try (exfalso; omega)
              have hfr : Below w.heap.size w w1 := bstep hb (hbl.alloc hbl.size _) (by have := hbl.size; simp; omega)
              have HM : Marked Try.prog 2 4 w1 w.heap.size k (firedBefore l k) := HU.out.below (((Below.refl _ wr).alloc (Nat.le_refl _) _).trans (hb.mono (by simp)))
              have hsz : w.heap.size ≤ w1.heap.size := hfr.size
              have hy := jobB_fired HJ.out
              go_wp2_with (at_mapUpdate; refine wpList_mark rfl _ _ _ 125 rfl 2 4 Try.underlying2 Try.underlying4 Try.underlying125 w.heap.size k (firedBefore l k) rfl HM (by unfold maxLen; omega) x4 hy rfl rfl ?_; intro w5 HM5 hg5)
              refine ⟨⟨k + 1, by omega, by go_num, hfr.grown hg5 hsz (fun k hk => by injection hk with hk; omega), Lib.hid (upto_succ hall.out (jobAtB_4 (by rw [HP.out.1]; exact HJ.out) (by rw [HP.out.1, HP.out.2]; exact HG.out) (by rw [HP.out.1]; exact .inl hxl))), Lib.hid (by
                have e : firedBefore l (k + 1) = fun z => firedBefore l k z || decide (x4 = z) := funext fun z => by rw [firedBefore_succ, HP.out.1]
                rw [e]
                exact HM5)⟩, by simp [intOf]; omega⟩
            · have hx4 : (!decide (x4 = 0)) = true := by simpa using hx
              have hD : ∀ w0, Calls Try.prog 115 #[.agg #[.int .i64 x0, .int .i64 x1, .int .i64 x2, .int .i64 x3, .int .i64 x4]] w0 fun e' w' => e' = .returned (.bool true) ∧ Below w0.heap.size w0 w' := fun w0 => by
                have := closed_any x0 x1 x2 x3 x4 w0
                rwa [hx4] at this
              clear hx4
              have HX := Lib.hid hx
              clear hx
              by_cases hu : firedBefore l k x4 = true
              · have hlk : ∀ (o : Obj) (z : Ext (wr.alloc o)), (Instr.lookup 125 (.map (some w.heap.size)) (.int .i64 x4) false).run Try.prog z.w = .ok (.bool true) z.w := fun o z => by
                  have := (HU.out.below (((Below.refl _ wr).alloc (Nat.le_refl _) o).trans (z.h.mono (by simp)))).look (t := 125) Try.underlying2 Try.underlying4 Try.underlying125 (zeroB _) (jobB_fired HJ.out)
                  rwa [hu] at this
                have HUU := Lib.hid hu
                clear hu
                go_wp2
                ((refine wp_region_ext (by kernel_rfl) (by kernel_rfl) ?_); (repeat (any_goals (first | go_big_quiet_step (first | (go_at_call 113; exact quiet_ext (hC _)) | (go_at_call 115; exact quiet_ext (hD _))) | (refine wpQuiet_step (fun K hK => ?_); go_simp; split <;> (refine hK _ ?_; clear hK K)) | quiet_step (first | (go_at_call 113; exact quiet_ext (hC _)) | (go_at_call 115; exact quiet_ext (hD _)))))); (all_goals (refine wpQuiet_nil ?_; rintro _ ⟨z, rfl⟩; have hb' := z.h; generalize z.w = w1 at hb' ⊢; clear z; (first | (have hb2 := bstep hb' hb hb.size; clear hb' hcb hfb hz1 hz2 hz3 hz4 hb; have hb := hb2; clear hb2) | (have hb := hb'; clear hb')); obtain ⟨hcb, hfb, hz1, hz2, hz3, hz4⟩ := bcell hb; (try simp only [World.size_alloc, World.size_setCell, World.size_drew, Nat.lt_add_one_iff, Nat.add_assoc, Nat.reduceAdd] at hz1 hz2 hz3 hz4))))
                all_goals go_wp2
                all_goals go_ret
                all_goals exact ⟨ret_bool (jobsB_false (hL.out.symm ▸ hlt) (jobAtB_3 (by rw [HP.out.1]; have := HX.out; have h9 := jobB_fired HJ.out; show 0 < x4; omega) (by rw [HP.out.1]; exact HUU.out))).symm, bstep hb (hbl.alloc hbl.size _) (by have := hbl.size; simp; omega)⟩
              · have hu : firedBefore l k x4 = false := by simpa using hu
                have hlk : ∀ (o : Obj) (z : Ext (wr.alloc o)), (Instr.lookup 125 (.map (some w.heap.size)) (.int .i64 x4) false).run Try.prog z.w = .ok (.bool false) z.w := fun o z => by
                  have := (HU.out.below (((Below.refl _ wr).alloc (Nat.le_refl _) o).trans (z.h.mono (by simp)))).look (t := 125) Try.underlying2 Try.underlying4 Try.underlying125 (zeroB _) (jobB_fired HJ.out)
                  rwa [hu] at this
                have HUU := Lib.hid hu
                clear hu
                go_wp2
                ((refine wp_region_ext (by kernel_rfl) (by kernel_rfl) ?_); (repeat (any_goals (first | go_big_quiet_step (first | (go_at_call 113; exact quiet_ext (hC _)) | (go_at_call 115; exact quiet_ext (hD _))) | (refine wpQuiet_step (fun K hK => ?_); go_simp; split <;> (refine hK _ ?_; clear hK K)) | quiet_step (first | (go_at_call 113; exact quiet_ext (hC _)) | (go_at_call 115; exact quiet_ext (hD _)))))); (all_goals (refine wpQuiet_nil ?_; rintro _ ⟨z, rfl⟩; have hb' := z.h; generalize z.w = w1 at hb' ⊢; clear z; (first | (have hb2 := bstep hb' hb hb.size; clear hb' hcb hfb hz1 hz2 hz3 hz4 hb; have hb := hb2; clear hb2) | (have hb := hb'; clear hb')); obtain ⟨hcb, hfb, hz1, hz2, hz3, hz4⟩ := bcell hb; (try simp only [World.size_alloc, World.size_setCell, World.size_drew, Nat.lt_add_one_iff, Nat.add_assoc, Nat.reduceAdd] at hz1 hz2 hz3 hz4))))
                all_goals try (exfalso; omega)
                have hfr : Below w.heap.size w w1 := bstep hb (hbl.alloc hbl.size _) (by have := hbl.size; simp; omega)
                have HM : Marked Try.prog 2 4 w1 w.heap.size k (firedBefore l k) := HU.out.below (((Below.refl _ wr).alloc (Nat.le_refl _) _).trans (hb.mono (by simp)))
                have hsz : w.heap.size ≤ w1.heap.size := hfr.size
                have hy := jobB_fired HJ.out
                go_wp2_with (at_mapUpdate; refine wpList_mark rfl _ _ _ 125 rfl 2 4 Try.underlying2 Try.underlying4 Try.underlying125 w.heap.size k (firedBefore l k) rfl HM (by unfold maxLen; omega) x4 hy rfl rfl ?_; intro w5 HM5 hg5)
                refine ⟨⟨k + 1, by omega, by go_num, hfr.grown hg5 hsz (fun k hk => by injection hk with hk; omega), Lib.hid (upto_succ hall.out (jobAtB_4 (by rw [HP.out.1]; exact HJ.out) (by rw [HP.out.1, HP.out.2]; exact HG.out) (by rw [HP.out.1]; exact .inr HUU.out))), Lib.hid (by
                  have e : firedBefore l (k + 1) = fun z => firedBefore l k z || decide (x4 = z) := funext fun z => by rw [firedBefore_succ, HP.out.1]
                  rw [e]
                  exact HM5)⟩, by simp [intOf]; omega⟩
          · have hk0' : (0 : Int) < (k : Int) := by omega
            have hxy : y0 < x0 := by omega
            have hd : decide (x0 ≤ y0) = false := decide_eq_false (by omega)
            clear hbad
            by_cases hx : x4 = 0
            · have hx4 : (!decide (x4 = 0)) = false := by simpa using hx
              have hD : ∀ w0, Calls Try.prog 115 #[.agg #[.int .i64 x0, .int .i64 x1, .int .i64 x2, .int .i64 x3, .int .i64 x4]] w0 fun e' w' => e' = .returned (.bool false) ∧ Below w0.heap.size w0 w' := fun w0 => by
                have := closed_any x0 x1 x2 x3 x4 w0
                rwa [hx4] at this
              have hxl : x4 ≤ 0 := by omega
              clear hx
              go_wp2
              ((refine wp_region_ext (by kernel_rfl) (by kernel_rfl) ?_); (repeat (any_goals (first | go_big_quiet_step (first | (go_at_call 113; exact quiet_ext (hC _)) | (go_at_call 115; exact quiet_ext (hD _))) | (refine wpQuiet_step (fun K hK => ?_); go_simp; split <;> (refine hK _ ?_; clear hK K)) | quiet_step (first | (go_at_call 113; exact quiet_ext (hC _)) | (go_at_call 115; exact quiet_ext (hD _)))))); (all_goals (refine wpQuiet_nil ?_; rintro _ ⟨z, rfl⟩; have hb' := z.h; generalize z.w = w1 at hb' ⊢; clear z; (first | (have hb2 := bstep hb' hb hb.size; clear hb' hcb hfb hz1 hz2 hz3 hz4 hb; have hb := hb2; clear hb2) | (have hb := hb'; clear hb')); obtain ⟨hcb, hfb, hz1, hz2, hz3, hz4⟩ := bcell hb; (try simp only [World.size_alloc, World.size_setCell, World.size_drew, Nat.lt_add_one_iff, Nat.add_assoc, Nat.reduceAdd] at hz1 hz2 hz3 hz4))))
              all_goals try (exfalso; omega)
              have hfr : Below w.heap.size w w1 := bstep hb (hbl.alloc hbl.size _) (by have := hbl.size; simp; omega)
              have HM : Marked Try.prog 2 4 w1 w.heap.size k (firedBefore l k) := HU.out.below (((Below.refl _ wr).alloc (Nat.le_refl _) _).trans (hb.mono (by simp)))
              have hsz : w.heap.size ≤ w1.heap.size := hfr.size
              have hy := jobB_fired HJ.out
              go_wp2_with (at_mapUpdate; refine wpList_mark rfl _ _ _ 125 rfl 2 4 Try.underlying2 Try.underlying4 Try.underlying125 w.heap.size k (firedBefore l k) rfl HM (by unfold maxLen; omega) x4 hy rfl rfl ?_; intro w5 HM5 hg5)
              refine ⟨⟨k + 1, by omega, by go_num, hfr.grown hg5 hsz (fun k hk => by injection hk with hk; omega), Lib.hid (upto_succ hall.out (jobAtB_4 (by rw [HP.out.1]; exact HJ.out) (by rw [HP.out.1, HP.out.2]; exact HG.out) (by rw [HP.out.1]; exact .inl hxl))), Lib.hid (by
                have e : firedBefore l (k + 1) = fun z => firedBefore l k z || decide (x4 = z) := funext fun z => by rw [firedBefore_succ, HP.out.1]
                rw [e]
                exact HM5)⟩, by simp [intOf]; omega⟩
            · have hx4 : (!decide (x4 = 0)) = true := by simpa using hx
              have hD : ∀ w0, Calls Try.prog 115 #[.agg #[.int .i64 x0, .int .i64 x1, .int .i64 x2, .int .i64 x3, .int .i64 x4]] w0 fun e' w' => e' = .returned (.bool true) ∧ Below w0.heap.size w0 w' := fun w0 => by
                have := closed_any x0 x1 x2 x3 x4 w0
                rwa [hx4] at this
              clear hx4
              have HX := Lib.hid hx
              clear hx
              by_cases hu : firedBefore l k x4 = true
              · have hlk : ∀ (o : Obj) (z : Ext (wr.alloc o)), (Instr.lookup 125 (.map (some w.heap.size)) (.int .i64 x4) false).run Try.prog z.w = .ok (.bool true) z.w := fun o z => by
                  have := (HU.out.below (((Below.refl _ wr).alloc (Nat.le_refl _) o).trans (z.h.mono (by simp)))).look (t := 125) Try.underlying2 Try.underlying4 Try.underlying125 (zeroB _) (jobB_fired HJ.out)
                  rwa [hu] at this
                have HUU := Lib.hid hu
                clear hu
                go_wp2
                ((refine wp_region_ext (by kernel_rfl) (by kernel_rfl) ?_); (repeat (any_goals (first | go_big_quiet_step (first | (go_at_call 113; exact quiet_ext (hC _)) | (go_at_call 115; exact quiet_ext (hD _))) | (refine wpQuiet_step (fun K hK => ?_); go_simp; split <;> (refine hK _ ?_; clear hK K)) | quiet_step (first | (go_at_call 113; exact quiet_ext (hC _)) | (go_at_call 115; exact quiet_ext (hD _)))))); (all_goals (refine wpQuiet_nil ?_; rintro _ ⟨z, rfl⟩; have hb' := z.h; generalize z.w = w1 at hb' ⊢; clear z; (first | (have hb2 := bstep hb' hb hb.size; clear hb' hcb hfb hz1 hz2 hz3 hz4 hb; have hb := hb2; clear hb2) | (have hb := hb'; clear hb')); obtain ⟨hcb, hfb, hz1, hz2, hz3, hz4⟩ := bcell hb; (try simp only [World.size_alloc, World.size_setCell, World.size_drew, Nat.lt_add_one_iff, Nat.add_assoc, Nat.reduceAdd] at hz1 hz2 hz3 hz4))))
                all_goals go_wp2
                all_goals go_ret
                all_goals exact ⟨ret_bool (jobsB_false (hL.out.symm ▸ hlt) (jobAtB_3 (by rw [HP.out.1]; have := HX.out; have h9 := jobB_fired HJ.out; show 0 < x4; omega) (by rw [HP.out.1]; exact HUU.out))).symm, bstep hb (hbl.alloc hbl.size _) (by have := hbl.size; simp; omega)⟩
              · have hu : firedBefore l k x4 = false := by simpa using hu
                have hlk : ∀ (o : Obj) (z : Ext (wr.alloc o)), (Instr.lookup 125 (.map (some w.heap.size)) (.int .i64 x4) false).run Try.prog z.w = .ok (.bool false) z.w := fun o z => by
                  have := (HU.out.below (((Below.refl _ wr).alloc (Nat.le_refl _) o).trans (z.h.mono (by simp)))).look (t := 125) Try.underlying2 Try.underlying4 Try.underlying125 (zeroB _) (jobB_fired HJ.out)
                  rwa [hu] at this
                have HUU := Lib.hid hu
                clear hu
                go_wp2
                ((refine wp_region_ext (by kernel_rfl) (by kernel_rfl) ?_); (repeat (any_goals (first | go_big_quiet_step (first | (go_at_call 113; exact quiet_ext (hC _)) | (go_at_call 115; exact quiet_ext (hD _))) | (refine wpQuiet_step (fun K hK => ?_); go_simp; split <;> (refine hK _ ?_; clear hK K)) | quiet_step (first | (go_at_call 113; exact quiet_ext (hC _)) | (go_at_call 115; exact quiet_ext (hD _)))))); (all_goals (refine wpQuiet_nil ?_; rintro _ ⟨z, rfl⟩; have hb' := z.h; generalize z.w = w1 at hb' ⊢; clear z; (first | (have hb2 := bstep hb' hb hb.size; clear hb' hcb hfb hz1 hz2 hz3 hz4 hb; have hb := hb2; clear hb2) | (have hb := hb'; clear hb')); obtain ⟨hcb, hfb, hz1, hz2, hz3, hz4⟩ := bcell hb; (try simp only [World.size_alloc, World.size_setCell, World.size_drew, Nat.lt_add_one_iff, Nat.add_assoc, Nat.reduceAdd] at hz1 hz2 hz3 hz4))))
                all_goals try (exfalso; omega)
                have hfr : Below w.heap.size w w1 := bstep hb (hbl.alloc hbl.size _) (by have := hbl.size; simp; omega)
                have HM : Marked Try.prog 2 4 w1 w.heap.size k (firedBefore l k) := HU.out.below (((Below.refl _ wr).alloc (Nat.le_refl _) _).trans (hb.mono (by simp)))
                have hsz : w.heap.size ≤ w1.heap.size := hfr.size
                have hy := jobB_fired HJ.out
                go_wp2_with (at_mapUpdate; refine wpList_mark rfl _ _ _ 125 rfl 2 4 Try.underlying2 Try.underlying4 Try.underlying125 w.heap.size k (firedBefore l k) rfl HM (by unfold maxLen; omega) x4 hy rfl rfl ?_; intro w5 HM5 hg5)
                refine ⟨⟨k + 1, by omega, by go_num, hfr.grown hg5 hsz (fun k hk => by injection hk with hk; omega), Lib.hid (upto_succ hall.out (jobAtB_4 (by rw [HP.out.1]; exact HJ.out) (by rw [HP.out.1, HP.out.2]; exact HG.out) (by rw [HP.out.1]; exact .inr HUU.out))), Lib.hid (by
                  have e : firedBefore l (k + 1) = fun z => firedBefore l k z || decide (x4 = z) := funext fun z => by rw [firedBefore_succ, HP.out.1]
                  rw [e]
                  exact HM5)⟩, by simp [intOf]; omega⟩
      · have hj : jobB x0 x1 x2 x3 x4 = false := by simpa using hj
        have hC : ∀ w0, Calls Try.prog 113 #[.agg #[.int .i64 x0, .int .i64 x1, .int .i64 x2, .int .i64 x3, .int .i64 x4]] w0 fun e' w' => e' = .returned (.bool false) ∧ Below w0.heap.size w0 w' := fun w0 => by
          have := jobOk_any x0 x1 x2 x3 x4 w0
          rwa [hj] at this
        have HJ := Lib.hid hj
        clear hj
        go_wp2
        ((refine wp_region_ext (by kernel_rfl) (by kernel_rfl) ?_); (repeat (any_goals (first | go_big_quiet_step ((go_at_call 113; exact quiet_ext (hC _))) | (refine wpQuiet_step (fun K hK => ?_); go_simp; split <;> (refine hK _ ?_; clear hK K)) | quiet_step ((go_at_call 113; exact quiet_ext (hC _)))))); (all_goals (refine wpQuiet_nil ?_; rintro _ ⟨z, rfl⟩; have hb' := z.h; generalize z.w = w1 at hb' ⊢; clear z; (first | (have hb2 := bstep hb' hb hb.size; clear hb' hcb hfb hz1 hz2 hz3 hz4 hb; have hb := hb2; clear hb2) | (have hb := hb'; clear hb')); obtain ⟨hcb, hfb, hz1, hz2, hz3, hz4⟩ := bcell hb; (try simp only [World.size_alloc, World.size_setCell, World.size_drew, Nat.lt_add_one_iff, Nat.add_assoc, Nat.reduceAdd] at hz1 hz2 hz3 hz4))))
        all_goals go_wp2
        all_goals go_ret
        all_goals exact ⟨ret_bool (jobsB_false (hL.out.symm ▸ hlt) (jobAtB_1 (by rw [HP.out.1]; exact HJ.out))).symm, bstep hb (hbl.alloc hbl.size _) (by have := hbl.size; simp; omega)⟩
    · have hkn : k = n := by omega
      subst hkn
      go_wp2
      go_ret
      exact ⟨ret_bool (jobsB_true (by have := hL.out; omega) (hL.out.symm ▸ hall.out)).symm, hbl⟩
end Go.Proofs.Ytgpllffiahccjaa

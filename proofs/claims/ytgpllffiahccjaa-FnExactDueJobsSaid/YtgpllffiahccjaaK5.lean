/- The reference's FiredJobs. -/
import Derived.Test.YtgpllffiahccjaaK4
import Derived.Test.YtgpllffiahccjaaJ1
namespace Go.Proofs.Ytgpllffiahccjaa
set_option linter.unusedSimpArgs false
set_option linter.unusedVariables false
attribute [local go_sem] n_lt2 n_lt3 n_lt4 n_le2 n_le3
open Go.RowKit
attribute [local go_sem] Ext.cell Ext.frozen
def slLen : Value → Nat
  | .slice _ n _ => n
  | _ => 0
/-- What the inner loop has found so far. -/
def BestAt (l : List Jb) (last : Int) (j : Nat) (bv : Value) : Prop :=
  (bv = .int .i64 (-1) ∧ ∀ t, t < j → (l.getD t default).f ≤ last) ∨ ∃ b : Nat, bv = .int .i64 (b : Nat) ∧ b < j ∧ last < (l.getD b default).f ∧ ∀ t, t < j → last < (l.getD t default).f → (l.getD b default).f ≤ (l.getD t default).f
theorem upto1 {Q : Nat → Prop} {j : Nat} (h : ∀ t, t < j → Q t) (hj : Q j) : ∀ t, t < j + 1 → Q t := fun t ht => by
  rcases Nat.lt_or_ge t j with h1 | h1
  · exact h t h1
  · obtain rfl : t = j := by omega
    exact hj
set_option maxRecDepth 100000 in
set_option maxHeartbeats 8000000 in
theorem specFiredJobs_any (A : Option Addr) (n cap : Nat) (l : List Jb) (w : World) (hS : Sl w 5 A n (JB l)) (hl : l.length = n) (hn : n ≤ maxLen) :
    Calls Try.prog 60 #[.slice A n cap] w (RetRow w 2 1 (firedR1 l).length (firedR1 l)) := by
  have HS := Lib.hid (fun (v : World) (hB : Below w.heap.size w v) => hS.below hB)
  have c1 := fun (v : World) (hv : Sl v 5 A n (JB l)) => specJobsOk_any A n cap l v hv hl hn
  clear hS
  cases hb : jobsB l with
  | false =>
    have hr : firedR1 l = [] := by unfold firedR1; rw [hb]; rfl
    rw [hr]
    rw [hb] at c1
    have C1 := Lib.hid c1
    clear c1
    go_enter Try.func60, Try.ntmps60
    go_wp2_with fail
    refine calls_named ?_
    rintro v hv
    have bv : Below w.heap.size w v := by rw [hv]; exact (Below.refl _ _).alloc (Nat.le_refl _) _
    have R0 : Row v w.heap.size 2 1 (some ⟨w.heap.size, 0, none⟩) 0 0 [] := by rw [hv]; exact row0p (Blk.new w _ _) (Nat.le_refl _)
    clear hv
    refine (C1.out v (HS.out v bv)).mono ?_
    rintro e w1 ⟨rfl, b1⟩
    go_wp2
    go_ret
    exact RetRow.mk (R0.below b1) (bthen bv b1)
  | true =>
    have hr : firedR1 l = firL l := by unfold firedR1; rw [hb]; rfl
    rw [hr]
    rw [hb] at c1
    have C1 := Lib.hid c1
    have h8 := (jobsB_all hb).1
    have hn8 : n ≤ 8 := by omega
    have HB := Lib.hid hb
    have hL := Lib.hid hl
    obtain ⟨S, hs⟩ : ∃ x, firedS l = x := ⟨_, rfl⟩
    have hs8 : S.length ≤ n := by rw [← hs, ← hl]; exact firedS_len l
    have HSS := Lib.hid hs
    clear c1 hr hb h8 hl hs
    go_enter Try.func60, Try.ntmps60
    go_wp2_with fail
    refine calls_named ?_
    rintro v hv
    have bv : Below w.heap.size w v := by rw [hv]; exact (Below.refl _ _).alloc (Nat.le_refl _) _
    have R0 : Row v w.heap.size 2 1 (some ⟨w.heap.size, 0, none⟩) 0 0 [] := by rw [hv]; exact row0p (Blk.new w _ _) (Nat.le_refl _)
    clear hv
    refine (C1.out v (HS.out v bv)).mono ?_
    rintro e w1 ⟨rfl, b1⟩
    have R1 := R0.below b1
    have f1 := bthen bv b1
    clear R0 bv b1
    go_wp2
    go_loopw [3, 4] (fun o lv wr => ∃ (k : Nat) (A0 : Option Addr) (c0 : Nat), k ≤ S.length ∧ o = .slice A0 k c0 ∧ lv = .int .i64 (lastF l k) ∧ Row wr w.heap.size 2 1 A0 k c0 ((S.take k).map (·.i)) ∧ Below w.heap.size w wr) (fun o _ _ => S.length - slLen o)
    case atStart => exact ⟨0, _, _, Nat.zero_le _, rfl, rfl, R1, f1⟩
    case round =>
      clear R1 f1
      obtain ⟨k, A0, c0, hk, rfl, rfl, R, hbl⟩ := hrel
      obtain ⟨la, hla⟩ : ∃ x, lastF l k = x := ⟨_, rfl⟩
      rw [hla]
      have HLA := Lib.hid hla
      clear hla
      go_wp2
      go_loopw [5, 6] (fun bv iv wq => ∃ j : Nat, j ≤ n ∧ iv = .int .i64 (j : Nat) ∧ Hid (BestAt l la j bv) ∧ Row wq w.heap.size 2 1 A0 k c0 ((S.take k).map (·.i)) ∧ Below w.heap.size w wq) (fun _ iv _ => n - (intOf iv).toNat)
      case atStart => exact ⟨0, Nat.zero_le _, rfl, Lib.hid (.inl ⟨rfl, fun t ht => absurd ht (by omega)⟩), R, hbl⟩
      case round =>
        clear R hbl
        obtain ⟨j, hj, rfl, hbest, R, hbl⟩ := hrel
        by_cases hjn : j < n
        · have hjn' : (j : Int) < (n : Int) := by omega
          obtain ⟨b0, off, rfl, hb0, hcell⟩ := sl_jobs (HS.out wr hbl) (by omega)
          have HC := Lib.hid (fun i hi => (hcell i hi).2.2.2.2)
          clear hcell
          have hfj := HC.out j hjn
          obtain ⟨fj, hfe⟩ : ∃ x, (l.getD j default).f = x := ⟨_, rfl⟩
          rw [hfe] at hfj
          have HF := Lib.hid hfe
          clear hfe
          rcases hbest.out with ⟨rfl, hno⟩ | ⟨b, rfl, hbj, hbl2, hmin⟩
          · have HNO := Lib.hid hno
            clear hno hbest
            by_cases hlt : la < fj
            · go_wp2
              ((refine wp_region_ext (by kernel_rfl) (by kernel_rfl) ?_); (repeat (any_goals (first | go_big_quiet_step (fail) | (refine wpQuiet_step (fun K hK => ?_); go_simp; split <;> (refine hK _ ?_; clear hK K)) | quiet_step (fail)))); (all_goals (refine wpQuiet_nil ?_; rintro _ ⟨z, rfl⟩; have hb' := z.h; generalize z.w = w1 at hb' ⊢; clear z; (first | (have hb2 := bstep hb' hb hb.size; clear hb' hcb hfb hz1 hz2 hz3 hz4 hb; have hb := hb2; clear hb2) | (have hb := hb'; clear hb')); obtain ⟨hcb, hfb, hz1, hz2, hz3, hz4⟩ := bcell hb; (try simp only [World.size_alloc, World.size_setCell, World.size_drew, Nat.lt_add_one_iff, Nat.add_assoc, Nat.reduceAdd] at hz1 hz2 hz3 hz4))))
              all_goals go_wp2
              all_goals exact ⟨⟨j + 1, by omega, by go_num, Lib.hid (.inr ⟨j, rfl, by omega, by rw [HF.out]; exact hlt, upto1 (fun t ht h => absurd (HNO.out t ht) (by omega)) (fun _ => Int.le_refl _)⟩), R.below hb, bthen hbl hb⟩, by simp [intOf]; omega⟩
            · have hle : fj ≤ la := by omega
              have hdf : decide (la < fj) = false := decide_eq_false hlt
              go_wp2
              ((refine wp_region_ext (by kernel_rfl) (by kernel_rfl) ?_); (repeat (any_goals (first | go_big_quiet_step (fail) | (refine wpQuiet_step (fun K hK => ?_); go_simp; split <;> (refine hK _ ?_; clear hK K)) | quiet_step (fail)))); (all_goals (refine wpQuiet_nil ?_; rintro _ ⟨z, rfl⟩; have hb' := z.h; generalize z.w = w1 at hb' ⊢; clear z; (first | (have hb2 := bstep hb' hb hb.size; clear hb' hcb hfb hz1 hz2 hz3 hz4 hb; have hb := hb2; clear hb2) | (have hb := hb'; clear hb')); obtain ⟨hcb, hfb, hz1, hz2, hz3, hz4⟩ := bcell hb; (try simp only [World.size_alloc, World.size_setCell, World.size_drew, Nat.lt_add_one_iff, Nat.add_assoc, Nat.reduceAdd] at hz1 hz2 hz3 hz4))))
              all_goals go_wp2
              all_goals exact ⟨⟨j + 1, by omega, by go_num, Lib.hid (.inl ⟨rfl, upto1 HNO.out (by rw [HF.out]; exact hle)⟩), R.below hb, bthen hbl hb⟩, by simp [intOf]; omega⟩
          · have hfb := HC.out b (by omega)
            obtain ⟨fb, hfe⟩ : ∃ x, (l.getD b default).f = x := ⟨_, rfl⟩
            rw [hfe] at hfb hbl2 hmin
            have HFB := Lib.hid hfe
            have HMIN := Lib.hid hmin
            clear hfe hmin hbest
            have hb0i : (0 : Int) ≤ (b : Int) := by omega
            have hbn : (b : Int) < (n : Int) := by omega
            by_cases hlt : la < fj
            · by_cases hlt2 : fj < fb
              · go_wp2
                ((refine wp_region_ext (by kernel_rfl) (by kernel_rfl) ?_); (repeat (any_goals (first | go_big_quiet_step (fail) | (refine wpQuiet_step (fun K hK => ?_); go_simp; split <;> (refine hK _ ?_; clear hK K)) | quiet_step (fail)))); (all_goals (refine wpQuiet_nil ?_; rintro _ ⟨z, rfl⟩; have hb' := z.h; generalize z.w = w1 at hb' ⊢; clear z; (first | (have hb2 := bstep hb' hb hb.size; clear hb' hcb hfb hz1 hz2 hz3 hz4 hb; have hb := hb2; clear hb2) | (have hb := hb'; clear hb')); obtain ⟨hcb, hfb, hz1, hz2, hz3, hz4⟩ := bcell hb; (try simp only [World.size_alloc, World.size_setCell, World.size_drew, Nat.lt_add_one_iff, Nat.add_assoc, Nat.reduceAdd] at hz1 hz2 hz3 hz4))))
                all_goals go_wp2
                all_goals exact ⟨⟨j + 1, by omega, by go_num, Lib.hid (.inr ⟨j, rfl, by omega, by rw [HF.out]; exact hlt, upto1 (fun t ht h => by rw [HF.out]; have := HMIN.out t ht h; omega) (fun _ => Int.le_refl _)⟩), R.below hb, bthen hbl hb⟩, by simp [intOf]; omega⟩
              · have hle2 : fb ≤ fj := by omega
                have hdf : decide (fj < fb) = false := decide_eq_false hlt2
                go_wp2
                ((refine wp_region_ext (by kernel_rfl) (by kernel_rfl) ?_); (repeat (any_goals (first | go_big_quiet_step (fail) | (refine wpQuiet_step (fun K hK => ?_); go_simp; split <;> (refine hK _ ?_; clear hK K)) | quiet_step (fail)))); (all_goals (refine wpQuiet_nil ?_; rintro _ ⟨z, rfl⟩; have hb' := z.h; generalize z.w = w1 at hb' ⊢; clear z; (first | (have hb2 := bstep hb' hb hb.size; clear hb' hcb hfb hz1 hz2 hz3 hz4 hb; have hb := hb2; clear hb2) | (have hb := hb'; clear hb')); obtain ⟨hcb, hfb, hz1, hz2, hz3, hz4⟩ := bcell hb; (try simp only [World.size_alloc, World.size_setCell, World.size_drew, Nat.lt_add_one_iff, Nat.add_assoc, Nat.reduceAdd] at hz1 hz2 hz3 hz4))))
                all_goals go_wp2
                all_goals exact ⟨⟨j + 1, by omega, by go_num, Lib.hid (.inr ⟨b, rfl, by omega, by rw [HFB.out]; exact hbl2, upto1 (fun t ht h => by rw [HFB.out]; exact HMIN.out t ht h) (fun _ => by rw [HFB.out, HF.out]; exact hle2)⟩), R.below hb, bthen hbl hb⟩, by simp [intOf]; omega⟩
            · have hle : fj ≤ la := by omega
              have hdf : decide (la < fj) = false := decide_eq_false hlt
              go_wp2
              ((refine wp_region_ext (by kernel_rfl) (by kernel_rfl) ?_); (repeat (any_goals (first | go_big_quiet_step (fail) | (refine wpQuiet_step (fun K hK => ?_); go_simp; split <;> (refine hK _ ?_; clear hK K)) | quiet_step (fail)))); (all_goals (refine wpQuiet_nil ?_; rintro _ ⟨z, rfl⟩; have hb' := z.h; generalize z.w = w1 at hb' ⊢; clear z; (first | (have hb2 := bstep hb' hb hb.size; clear hb' hcb hfb hz1 hz2 hz3 hz4 hb; have hb := hb2; clear hb2) | (have hb := hb'; clear hb')); obtain ⟨hcb, hfb, hz1, hz2, hz3, hz4⟩ := bcell hb; (try simp only [World.size_alloc, World.size_setCell, World.size_drew, Nat.lt_add_one_iff, Nat.add_assoc, Nat.reduceAdd] at hz1 hz2 hz3 hz4))))
              all_goals go_wp2
              all_goals exact ⟨⟨j + 1, by omega, by go_num, Lib.hid (.inr ⟨b, rfl, by omega, by rw [HFB.out]; exact hbl2, upto1 (fun t ht h => by rw [HFB.out]; exact HMIN.out t ht h) (fun h => by rw [HF.out] at h; omega)⟩), R.below hb, bthen hbl hb⟩, by simp [intOf]; omega⟩
        · have hjn2 : j = n := by omega
          subst hjn2
          have hjn' : ¬ (j : Int) < (j : Int) := by omega
          rcases hbest.out with ⟨rfl, hno⟩ | ⟨b, rfl, hbj, hbl2, hmin⟩
          · have hke : k = S.length := by rw [← HSS.out]; exact fired_end HB.out (by rw [HSS.out]; exact hk) (fun t ht => by rw [HLA.out]; have := hno t (by rw [← hL.out]; exact ht); omega)
            have HKE := Lib.hid hke
            clear hno hbest hke
            go_wp2
            go_ret
            have e1 : (S.take k).map (·.i) = firL l := by rw [List.take_of_length_le (Nat.le_of_eq HKE.out.symm), ← HSS.out]; rfl
            have e2 : (firL l).length = k := by unfold firL; rw [List.length_map, HSS.out]; exact HKE.out.symm
            rw [e1] at R
            rw [e2]
            exact RetRow.mk R hbl
          · have hnx := fired_next HB.out (by rw [HSS.out]; exact hk) (by rw [hL.out]; exact hbj) (by rw [HLA.out]; exact hbl2) (fun t ht h => hmin t (by rw [← hL.out]; exact ht) (by rw [HLA.out] at h; exact h))
            obtain ⟨hkS, hget⟩ := hnx
            rw [HSS.out] at hkS hget
            obtain ⟨b0, off, rfl, hb0, hcell⟩ := sl_jobs (HS.out w (Below.refl _ _)) (by omega)
            obtain ⟨h0, _, _, _, h4⟩ := hcell b hbj
            clear hcell
            have HW4 := Lib.hid h4
            rw [← hbl.cell (by exact hb0)] at h0 h4
            have hts := Lib.hid (take_map_succ (l := S) (k := k) hkS)
            have hlf := Lib.hid (show lastF l (k + 1) = (l.getD b default).f by rw [lastF_succ, HSS.out, hget])
            rw [hget] at hts
            clear hget hbest hmin
            obtain ⟨xi, hxi⟩ : ∃ x, (l.getD b default).i = x := ⟨_, rfl⟩
            obtain ⟨xf, hxf⟩ : ∃ x, (l.getD b default).f = x := ⟨_, rfl⟩
            rw [hxi] at h0 hts
            rw [hxf] at h4 hlf hbl2 HW4
            clear hxi hxf
            have hb0i : ¬ (b : Int) < 0 := by omega
            have hb0j : (0 : Int) ≤ (b : Int) := by omega
            have hbn : (b : Int) < (j : Int) := by omega
            have hbr : b0 < wr.heap.size := Nat.lt_of_lt_of_le hb0 hbl.size
            have hz := hbl.size
            have hlen8 : S.length ≤ 8 := by omega
            go_wp2_with (at_builtin; refine wpList_append_row rfl _ _ 39 rfl 2 (.int .i64 0) 1 8 Try.underlying39 info_Int64 (by first | kernel_rfl | simp [Value.cells]) (by decide) w.heap.size A0 k c0 ((S.take k).map (·.i)) rfl (R.alloc _) ⟨wr.heap.size, 0, none⟩ 1 1 [xi] rfl rfl (cell_one_at _ _ _ _ rfl) (by unfold maxLen; omega) (by omega) (by simp; omega) ?_; intro A5 c5 w5 R5 B5; have Bx : Below w.heap.size w w5 := btr (hbl.alloc hz _) B5; have h4x : w5.cell? ⟨b0, off + b * 5 + 4, none⟩ = some (.int .i64 xf) := (Bx.cell (p := ⟨b0, off + b * 5 + 4, none⟩) hb0).trans HW4.out; have hbx := Nat.lt_of_lt_of_le hb0 Bx.size)
            rw [hts.out] at R5
            exact ⟨⟨k + 1, A5, c5, hkS, rfl, by rw [hlf.out], R5, Bx⟩, by simp [slLen]; omega⟩
end Go.Proofs.Ytgpllffiahccjaa

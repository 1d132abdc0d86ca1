/- Part 4 of what the claim rests on: Lease5, T2, OnceL, EfL, T3, T3Y1, T3Y2, T3Y3, T3Y4, T3Y5, T3N1, T3N2, T3N3, T3N4, T3N5, T4, T5. No condition of its own. -/
import Derived.Test.YtokklkmibjpjnaaBd3
import Derived.Deep.DeepCutAuto
import Derived.Deep.RegionHeldLaw
import Derived.Laws.EntriesVeiled
namespace Go.Proofs.Ytokklkmibjpjnaa
set_option linter.unusedSimpArgs false
set_option linter.unusedVariables false
attribute [local go_sem] n_lt2 n_lt3 n_lt4 n_le2 n_le3
open Go.RowKit
attribute [local go_sem] Ext.cell Ext.frozen

theorem max_any (a b : Int) (w : World) : Calls Try.prog 76 #[.int .i64 a, .int .i64 b] w fun e w' => e = .returned (.int .i64 (max a b)) ∧ w = w' := by
  by_cases h : b < a
  · have hm : max a b = a := by omega
    rw [hm]; clear hm
    go_enter Try.func76, Try.ntmps76
    go_wp2
    go_ret
    exact ⟨rfl, rfl⟩
  · have hm : max a b = b := by omega
    rw [hm]; clear hm
    go_enter Try.func76, Try.ntmps76
    go_wp2
    go_ret
    exact ⟨rfl, rfl⟩

/-- What Granted hands back. -/
def RetGrant (w : World) (g : (Int × Int × Int) × Bool) (e : Ending) (w' : World) : Prop := e = .returned (.tuple #[.agg #[.int .i64 g.1.1, .int .i64 g.1.2.1, .int .i64 g.1.2.2], .bool g.2]) ∧ Below w.heap.size w w'

theorem lease_e {h e u : Int} (hl : leaseB h e u = true) : 0 ≤ e ∧ e ≤ 1000 ∧ 0 ≤ u ∧ u ≤ 1001000 := by
  unfold leaseB at hl
  simp only [Bool.or_eq_true, Bool.and_eq_true, decide_eq_true_eq, inB_iff] at hl
  omega

set_option maxHeartbeats 2000000 in
theorem specGranted_any (a e u who t long : Int) (w : World) :
    Calls Try.prog 51 #[.agg #[.int .i64 a, .int .i64 e, .int .i64 u], .int .i64 who, .int .i64 t, .int .i64 long] w (RetGrant w (grantL a e u who t long)) := by
  by_cases h1 : leaseB a e u = true
  · obtain ⟨b5, b6, b7, b8⟩ := lease_e h1
    by_cases h2 : (whoB who && (inB t 0 1000000 && inB long 1 1000)) = true
    · have h2' := h2
      simp only [Bool.and_eq_true] at h2'
      obtain ⟨e1, e2, e3⟩ := h2'
      obtain ⟨b1, b2⟩ := (inB_iff _ _ _).1 e2
      obtain ⟨b3, b4⟩ := (inB_iff _ _ _).1 e3
      by_cases h3 : a = who
      · have hv : grantL a e u who t long = ((a, e, max u (t + long)), true) := by unfold grantL; rw [if_pos h1, if_pos h2, if_pos h3]
        rw [hv]
        subst h3
        clear hv h2
        go_enter Try.func51, Try.ntmps51
        go_wp2_with (first | (go_at_call 31; refine (specLeaseOk_any _ _ _ _).mono ?_; rintro e w1 ⟨rfl, hb'⟩; (first | (have hb2 := bstep hb' hb hb.size; clear hb' hcb hfb hz1 hz2 hz3 hz4 hb; have hb := hb2; clear hb2) | (have hb := hb'; clear hb')); obtain ⟨hcb, hfb, hz1, hz2, hz3, hz4⟩ := bcell hb; (try simp only [World.size_alloc, World.size_setCell, World.size_drew, Nat.lt_add_one_iff, Nat.add_assoc, Nat.reduceAdd] at hz1 hz2 hz3 hz4); (have q0x0 := hcb w.heap.size 0 (by simp <;> omega)); (simp [go_sem] at q0x0); (have q0x1 := hcb w.heap.size 1 (by simp <;> omega)); (simp [go_sem] at q0x1); (have q0x2 := hcb w.heap.size 2 (by simp <;> omega)); (simp [go_sem] at q0x2); (have q1x0 := hcb (w.heap.size + 1) 0 (by simp <;> omega)); (simp [go_sem] at q1x0); (have q1x1 := hcb (w.heap.size + 1) 1 (by simp <;> omega)); (simp [go_sem] at q1x1); (have q1x2 := hcb (w.heap.size + 1) 2 (by simp <;> omega)); (simp [go_sem] at q1x2)) | (go_at_call 77; refine (specFreeAt_any _ _ _ _ _).mono ?_; rintro e w1 ⟨rfl, hb'⟩; (first | (have hb2 := bstep hb' hb hb.size; clear hb' hcb hfb hz1 hz2 hz3 hz4 hb; have hb := hb2; clear hb2) | (have hb := hb'; clear hb')); obtain ⟨hcb, hfb, hz1, hz2, hz3, hz4⟩ := bcell hb; (try simp only [World.size_alloc, World.size_setCell, World.size_drew, Nat.lt_add_one_iff, Nat.add_assoc, Nat.reduceAdd] at hz1 hz2 hz3 hz4); (have q0x0 := hcb w.heap.size 0 (by simp <;> omega)); (simp [go_sem] at q0x0); (have q0x1 := hcb w.heap.size 1 (by simp <;> omega)); (simp [go_sem] at q0x1); (have q0x2 := hcb w.heap.size 2 (by simp <;> omega)); (simp [go_sem] at q0x2); (have q1x0 := hcb (w.heap.size + 1) 0 (by simp <;> omega)); (simp [go_sem] at q1x0); (have q1x1 := hcb (w.heap.size + 1) 1 (by simp <;> omega)); (simp [go_sem] at q1x1); (have q1x2 := hcb (w.heap.size + 1) 2 (by simp <;> omega)); (simp [go_sem] at q1x2)) | (go_at_call 64; refine (l16Who_any _ _).mono ?_; rintro e w' ⟨rfl, rfl⟩) | (go_at_call 28; refine (l16Time_any _ _).mono ?_; rintro e w' ⟨rfl, rfl⟩) | (go_at_call 27; refine (l1In_any _ _ _ _).mono ?_; rintro e w' ⟨rfl, rfl⟩) | (go_at_call 76; refine (max_any _ _ _).mono ?_; rintro e w' ⟨rfl, rfl⟩))
        all_goals refine bodyPost_ret (v := .tuple #[.agg #[.int .i64 (a), .int .i64 (e), .int .i64 (max u (t + long))], .bool true]) (by simp [results, Try.results51, go_sem, *] <;> omega) rfl ⟨rfl, by (repeat' (first | (with_reducible exact Below.refl _ _) | (with_reducible assumption) | (with_reducible refine Below.alloc ?_ ?_ _) | (with_reducible refine Below.drew ?_) | (with_reducible refine Below.setCell ?_ ?_ _) | (with_reducible refine bstep (by assumption) ?_ ?_) | (with_reducible exact Nat.le_refl _) | omega | (simp [*]; done) | (simp [*]; omega)))⟩
      · have h3' : (a == who) = false := by simpa using h3
        by_cases h4 : (freeB a u t && decide (e < 1000)) = true
        · have hv : grantL a e u who t long = ((who, e + 1, t + long), true) := by unfold grantL; rw [if_pos h1, if_pos h2, if_neg h3, if_pos h4]
          rw [hv]
          simp only [Bool.and_eq_true, decide_eq_true_eq] at h4
          obtain ⟨h4, h5⟩ := h4
          have h6 : freeAtB a e u t = true := by unfold freeAtB; simp [*]
          clear hv h2 h3
          go_enter Try.func51, Try.ntmps51
          go_wp2_with (first | (go_at_call 31; refine (specLeaseOk_any _ _ _ _).mono ?_; rintro e w1 ⟨rfl, hb'⟩; (first | (have hb2 := bstep hb' hb hb.size; clear hb' hcb hfb hz1 hz2 hz3 hz4 hb; have hb := hb2; clear hb2) | (have hb := hb'; clear hb')); obtain ⟨hcb, hfb, hz1, hz2, hz3, hz4⟩ := bcell hb; (try simp only [World.size_alloc, World.size_setCell, World.size_drew, Nat.lt_add_one_iff, Nat.add_assoc, Nat.reduceAdd] at hz1 hz2 hz3 hz4); (have q0x0 := hcb w.heap.size 0 (by simp <;> omega)); (simp [go_sem] at q0x0); (have q0x1 := hcb w.heap.size 1 (by simp <;> omega)); (simp [go_sem] at q0x1); (have q0x2 := hcb w.heap.size 2 (by simp <;> omega)); (simp [go_sem] at q0x2); (have q1x0 := hcb (w.heap.size + 1) 0 (by simp <;> omega)); (simp [go_sem] at q1x0); (have q1x1 := hcb (w.heap.size + 1) 1 (by simp <;> omega)); (simp [go_sem] at q1x1); (have q1x2 := hcb (w.heap.size + 1) 2 (by simp <;> omega)); (simp [go_sem] at q1x2)) | (go_at_call 77; refine (specFreeAt_any _ _ _ _ _).mono ?_; rintro e w1 ⟨rfl, hb'⟩; (first | (have hb2 := bstep hb' hb hb.size; clear hb' hcb hfb hz1 hz2 hz3 hz4 hb; have hb := hb2; clear hb2) | (have hb := hb'; clear hb')); obtain ⟨hcb, hfb, hz1, hz2, hz3, hz4⟩ := bcell hb; (try simp only [World.size_alloc, World.size_setCell, World.size_drew, Nat.lt_add_one_iff, Nat.add_assoc, Nat.reduceAdd] at hz1 hz2 hz3 hz4); (have q0x0 := hcb w.heap.size 0 (by simp <;> omega)); (simp [go_sem] at q0x0); (have q0x1 := hcb w.heap.size 1 (by simp <;> omega)); (simp [go_sem] at q0x1); (have q0x2 := hcb w.heap.size 2 (by simp <;> omega)); (simp [go_sem] at q0x2); (have q1x0 := hcb (w.heap.size + 1) 0 (by simp <;> omega)); (simp [go_sem] at q1x0); (have q1x1 := hcb (w.heap.size + 1) 1 (by simp <;> omega)); (simp [go_sem] at q1x1); (have q1x2 := hcb (w.heap.size + 1) 2 (by simp <;> omega)); (simp [go_sem] at q1x2)) | (go_at_call 64; refine (l16Who_any _ _).mono ?_; rintro e w' ⟨rfl, rfl⟩) | (go_at_call 28; refine (l16Time_any _ _).mono ?_; rintro e w' ⟨rfl, rfl⟩) | (go_at_call 27; refine (l1In_any _ _ _ _).mono ?_; rintro e w' ⟨rfl, rfl⟩) | (go_at_call 76; refine (max_any _ _ _).mono ?_; rintro e w' ⟨rfl, rfl⟩))
          all_goals refine bodyPost_ret (v := .tuple #[.agg #[.int .i64 (who), .int .i64 (e + 1), .int .i64 (t + long)], .bool true]) (by simp [results, Try.results51, go_sem, *] <;> omega) rfl ⟨rfl, by (repeat' (first | (with_reducible exact Below.refl _ _) | (with_reducible assumption) | (with_reducible refine Below.alloc ?_ ?_ _) | (with_reducible refine Below.drew ?_) | (with_reducible refine Below.setCell ?_ ?_ _) | (with_reducible refine bstep (by assumption) ?_ ?_) | (with_reducible exact Nat.le_refl _) | omega | (simp [*]; done) | (simp [*]; omega)))⟩
        · have hv : grantL a e u who t long = ((a, e, u), false) := by unfold grantL; rw [if_pos h1, if_pos h2, if_neg h3, if_neg h4]
          rw [hv]
          clear hv h2 h3
          rcases (show freeB a u t = false ∨ (freeB a u t = true ∧ 1000 ≤ e) by
            cases hf : freeB a u t with
            | false => exact .inl rfl
            | true => rw [hf] at h4; simp at h4; exact .inr ⟨rfl, h4⟩) with h6 | ⟨h6, h7⟩
          · have h8 : freeAtB a e u t = false := by unfold freeAtB; simp [*]
            clear h4
            go_enter Try.func51, Try.ntmps51
            go_wp2_with (first | (go_at_call 31; refine (specLeaseOk_any _ _ _ _).mono ?_; rintro e w1 ⟨rfl, hb'⟩; (first | (have hb2 := bstep hb' hb hb.size; clear hb' hcb hfb hz1 hz2 hz3 hz4 hb; have hb := hb2; clear hb2) | (have hb := hb'; clear hb')); obtain ⟨hcb, hfb, hz1, hz2, hz3, hz4⟩ := bcell hb; (try simp only [World.size_alloc, World.size_setCell, World.size_drew, Nat.lt_add_one_iff, Nat.add_assoc, Nat.reduceAdd] at hz1 hz2 hz3 hz4); (have q0x0 := hcb w.heap.size 0 (by simp <;> omega)); (simp [go_sem] at q0x0); (have q0x1 := hcb w.heap.size 1 (by simp <;> omega)); (simp [go_sem] at q0x1); (have q0x2 := hcb w.heap.size 2 (by simp <;> omega)); (simp [go_sem] at q0x2); (have q1x0 := hcb (w.heap.size + 1) 0 (by simp <;> omega)); (simp [go_sem] at q1x0); (have q1x1 := hcb (w.heap.size + 1) 1 (by simp <;> omega)); (simp [go_sem] at q1x1); (have q1x2 := hcb (w.heap.size + 1) 2 (by simp <;> omega)); (simp [go_sem] at q1x2)) | (go_at_call 77; refine (specFreeAt_any _ _ _ _ _).mono ?_; rintro e w1 ⟨rfl, hb'⟩; (first | (have hb2 := bstep hb' hb hb.size; clear hb' hcb hfb hz1 hz2 hz3 hz4 hb; have hb := hb2; clear hb2) | (have hb := hb'; clear hb')); obtain ⟨hcb, hfb, hz1, hz2, hz3, hz4⟩ := bcell hb; (try simp only [World.size_alloc, World.size_setCell, World.size_drew, Nat.lt_add_one_iff, Nat.add_assoc, Nat.reduceAdd] at hz1 hz2 hz3 hz4); (have q0x0 := hcb w.heap.size 0 (by simp <;> omega)); (simp [go_sem] at q0x0); (have q0x1 := hcb w.heap.size 1 (by simp <;> omega)); (simp [go_sem] at q0x1); (have q0x2 := hcb w.heap.size 2 (by simp <;> omega)); (simp [go_sem] at q0x2); (have q1x0 := hcb (w.heap.size + 1) 0 (by simp <;> omega)); (simp [go_sem] at q1x0); (have q1x1 := hcb (w.heap.size + 1) 1 (by simp <;> omega)); (simp [go_sem] at q1x1); (have q1x2 := hcb (w.heap.size + 1) 2 (by simp <;> omega)); (simp [go_sem] at q1x2)) | (go_at_call 64; refine (l16Who_any _ _).mono ?_; rintro e w' ⟨rfl, rfl⟩) | (go_at_call 28; refine (l16Time_any _ _).mono ?_; rintro e w' ⟨rfl, rfl⟩) | (go_at_call 27; refine (l1In_any _ _ _ _).mono ?_; rintro e w' ⟨rfl, rfl⟩) | (go_at_call 76; refine (max_any _ _ _).mono ?_; rintro e w' ⟨rfl, rfl⟩))
            all_goals refine bodyPost_ret (v := .tuple #[.agg #[.int .i64 (a), .int .i64 (e), .int .i64 (u)], .bool false]) (by simp [results, Try.results51, go_sem, *] <;> omega) rfl ⟨rfl, by (repeat' (first | (with_reducible exact Below.refl _ _) | (with_reducible assumption) | (with_reducible refine Below.alloc ?_ ?_ _) | (with_reducible refine Below.drew ?_) | (with_reducible refine Below.setCell ?_ ?_ _) | (with_reducible refine bstep (by assumption) ?_ ?_) | (with_reducible exact Nat.le_refl _) | omega | (simp [*]; done) | (simp [*]; omega)))⟩
          · have h8 : freeAtB a e u t = true := by unfold freeAtB; simp [*]
            clear h4
            go_enter Try.func51, Try.ntmps51
            go_wp2_with (first | (go_at_call 31; refine (specLeaseOk_any _ _ _ _).mono ?_; rintro e w1 ⟨rfl, hb'⟩; (first | (have hb2 := bstep hb' hb hb.size; clear hb' hcb hfb hz1 hz2 hz3 hz4 hb; have hb := hb2; clear hb2) | (have hb := hb'; clear hb')); obtain ⟨hcb, hfb, hz1, hz2, hz3, hz4⟩ := bcell hb; (try simp only [World.size_alloc, World.size_setCell, World.size_drew, Nat.lt_add_one_iff, Nat.add_assoc, Nat.reduceAdd] at hz1 hz2 hz3 hz4); (have q0x0 := hcb w.heap.size 0 (by simp <;> omega)); (simp [go_sem] at q0x0); (have q0x1 := hcb w.heap.size 1 (by simp <;> omega)); (simp [go_sem] at q0x1); (have q0x2 := hcb w.heap.size 2 (by simp <;> omega)); (simp [go_sem] at q0x2); (have q1x0 := hcb (w.heap.size + 1) 0 (by simp <;> omega)); (simp [go_sem] at q1x0); (have q1x1 := hcb (w.heap.size + 1) 1 (by simp <;> omega)); (simp [go_sem] at q1x1); (have q1x2 := hcb (w.heap.size + 1) 2 (by simp <;> omega)); (simp [go_sem] at q1x2)) | (go_at_call 77; refine (specFreeAt_any _ _ _ _ _).mono ?_; rintro e w1 ⟨rfl, hb'⟩; (first | (have hb2 := bstep hb' hb hb.size; clear hb' hcb hfb hz1 hz2 hz3 hz4 hb; have hb := hb2; clear hb2) | (have hb := hb'; clear hb')); obtain ⟨hcb, hfb, hz1, hz2, hz3, hz4⟩ := bcell hb; (try simp only [World.size_alloc, World.size_setCell, World.size_drew, Nat.lt_add_one_iff, Nat.add_assoc, Nat.reduceAdd] at hz1 hz2 hz3 hz4); (have q0x0 := hcb w.heap.size 0 (by simp <;> omega)); (simp [go_sem] at q0x0); (have q0x1 := hcb w.heap.size 1 (by simp <;> omega)); (simp [go_sem] at q0x1); (have q0x2 := hcb w.heap.size 2 (by simp <;> omega)); (simp [go_sem] at q0x2); (have q1x0 := hcb (w.heap.size + 1) 0 (by simp <;> omega)); (simp [go_sem] at q1x0); (have q1x1 := hcb (w.heap.size + 1) 1 (by simp <;> omega)); (simp [go_sem] at q1x1); (have q1x2 := hcb (w.heap.size + 1) 2 (by simp <;> omega)); (simp [go_sem] at q1x2)) | (go_at_call 64; refine (l16Who_any _ _).mono ?_; rintro e w' ⟨rfl, rfl⟩) | (go_at_call 28; refine (l16Time_any _ _).mono ?_; rintro e w' ⟨rfl, rfl⟩) | (go_at_call 27; refine (l1In_any _ _ _ _).mono ?_; rintro e w' ⟨rfl, rfl⟩) | (go_at_call 76; refine (max_any _ _ _).mono ?_; rintro e w' ⟨rfl, rfl⟩))
            all_goals refine bodyPost_ret (v := .tuple #[.agg #[.int .i64 (a), .int .i64 (e), .int .i64 (u)], .bool false]) (by simp [results, Try.results51, go_sem, *] <;> omega) rfl ⟨rfl, by (repeat' (first | (with_reducible exact Below.refl _ _) | (with_reducible assumption) | (with_reducible refine Below.alloc ?_ ?_ _) | (with_reducible refine Below.drew ?_) | (with_reducible refine Below.setCell ?_ ?_ _) | (with_reducible refine bstep (by assumption) ?_ ?_) | (with_reducible exact Nat.le_refl _) | omega | (simp [*]; done) | (simp [*]; omega)))⟩
    · have hv : grantL a e u who t long = ((a, e, u), false) := by unfold grantL; rw [if_pos h1, if_neg h2]
      rw [hv]
      clear hv
      rcases (show whoB who = false ∨ (whoB who = true ∧ inB t 0 1000000 = false) ∨ (whoB who = true ∧ inB t 0 1000000 = true ∧ inB long 1 1000 = false) by
        cases hf : whoB who with
        | false => exact .inl rfl
        | true =>
          cases hg : inB t 0 1000000 with
          | false => exact .inr (.inl ⟨rfl, rfl⟩)
          | true => rw [hf, hg] at h2; simp at h2; exact .inr (.inr ⟨rfl, rfl, h2⟩)) with h6 | ⟨h6, h7⟩ | ⟨h6, h7, h8⟩
      all_goals clear h2
      all_goals go_enter Try.func51, Try.ntmps51
      all_goals go_wp2_with (first | (go_at_call 31; refine (specLeaseOk_any _ _ _ _).mono ?_; rintro e w1 ⟨rfl, hb'⟩; (first | (have hb2 := bstep hb' hb hb.size; clear hb' hcb hfb hz1 hz2 hz3 hz4 hb; have hb := hb2; clear hb2) | (have hb := hb'; clear hb')); obtain ⟨hcb, hfb, hz1, hz2, hz3, hz4⟩ := bcell hb; (try simp only [World.size_alloc, World.size_setCell, World.size_drew, Nat.lt_add_one_iff, Nat.add_assoc, Nat.reduceAdd] at hz1 hz2 hz3 hz4); (have q0x0 := hcb w.heap.size 0 (by simp <;> omega)); (simp [go_sem] at q0x0); (have q0x1 := hcb w.heap.size 1 (by simp <;> omega)); (simp [go_sem] at q0x1); (have q0x2 := hcb w.heap.size 2 (by simp <;> omega)); (simp [go_sem] at q0x2); (have q1x0 := hcb (w.heap.size + 1) 0 (by simp <;> omega)); (simp [go_sem] at q1x0); (have q1x1 := hcb (w.heap.size + 1) 1 (by simp <;> omega)); (simp [go_sem] at q1x1); (have q1x2 := hcb (w.heap.size + 1) 2 (by simp <;> omega)); (simp [go_sem] at q1x2)) | (go_at_call 77; refine (specFreeAt_any _ _ _ _ _).mono ?_; rintro e w1 ⟨rfl, hb'⟩; (first | (have hb2 := bstep hb' hb hb.size; clear hb' hcb hfb hz1 hz2 hz3 hz4 hb; have hb := hb2; clear hb2) | (have hb := hb'; clear hb')); obtain ⟨hcb, hfb, hz1, hz2, hz3, hz4⟩ := bcell hb; (try simp only [World.size_alloc, World.size_setCell, World.size_drew, Nat.lt_add_one_iff, Nat.add_assoc, Nat.reduceAdd] at hz1 hz2 hz3 hz4); (have q0x0 := hcb w.heap.size 0 (by simp <;> omega)); (simp [go_sem] at q0x0); (have q0x1 := hcb w.heap.size 1 (by simp <;> omega)); (simp [go_sem] at q0x1); (have q0x2 := hcb w.heap.size 2 (by simp <;> omega)); (simp [go_sem] at q0x2); (have q1x0 := hcb (w.heap.size + 1) 0 (by simp <;> omega)); (simp [go_sem] at q1x0); (have q1x1 := hcb (w.heap.size + 1) 1 (by simp <;> omega)); (simp [go_sem] at q1x1); (have q1x2 := hcb (w.heap.size + 1) 2 (by simp <;> omega)); (simp [go_sem] at q1x2)) | (go_at_call 64; refine (l16Who_any _ _).mono ?_; rintro e w' ⟨rfl, rfl⟩) | (go_at_call 28; refine (l16Time_any _ _).mono ?_; rintro e w' ⟨rfl, rfl⟩) | (go_at_call 27; refine (l1In_any _ _ _ _).mono ?_; rintro e w' ⟨rfl, rfl⟩) | (go_at_call 76; refine (max_any _ _ _).mono ?_; rintro e w' ⟨rfl, rfl⟩))
      all_goals refine bodyPost_ret (v := .tuple #[.agg #[.int .i64 (a), .int .i64 (e), .int .i64 (u)], .bool false]) (by simp [results, Try.results51, go_sem, *] <;> omega) rfl ⟨rfl, by (repeat' (first | (with_reducible exact Below.refl _ _) | (with_reducible assumption) | (with_reducible refine Below.alloc ?_ ?_ _) | (with_reducible refine Below.drew ?_) | (with_reducible refine Below.setCell ?_ ?_ _) | (with_reducible refine bstep (by assumption) ?_ ?_) | (with_reducible exact Nat.le_refl _) | omega | (simp [*]; done) | (simp [*]; omega)))⟩
  · have hv : grantL a e u who t long = ((0, 0, 0), false) := by unfold grantL; rw [if_neg h1]
    rw [hv]
    have h1' : leaseB a e u = false := by simpa using h1
    clear hv h1
    go_enter Try.func51, Try.ntmps51
    go_wp2_with (first | (go_at_call 31; refine (specLeaseOk_any _ _ _ _).mono ?_; rintro e w1 ⟨rfl, hb'⟩; (first | (have hb2 := bstep hb' hb hb.size; clear hb' hcb hfb hz1 hz2 hz3 hz4 hb; have hb := hb2; clear hb2) | (have hb := hb'; clear hb')); obtain ⟨hcb, hfb, hz1, hz2, hz3, hz4⟩ := bcell hb; (try simp only [World.size_alloc, World.size_setCell, World.size_drew, Nat.lt_add_one_iff, Nat.add_assoc, Nat.reduceAdd] at hz1 hz2 hz3 hz4); (have q0x0 := hcb w.heap.size 0 (by simp <;> omega)); (simp [go_sem] at q0x0); (have q0x1 := hcb w.heap.size 1 (by simp <;> omega)); (simp [go_sem] at q0x1); (have q0x2 := hcb w.heap.size 2 (by simp <;> omega)); (simp [go_sem] at q0x2); (have q1x0 := hcb (w.heap.size + 1) 0 (by simp <;> omega)); (simp [go_sem] at q1x0); (have q1x1 := hcb (w.heap.size + 1) 1 (by simp <;> omega)); (simp [go_sem] at q1x1); (have q1x2 := hcb (w.heap.size + 1) 2 (by simp <;> omega)); (simp [go_sem] at q1x2)) | (go_at_call 77; refine (specFreeAt_any _ _ _ _ _).mono ?_; rintro e w1 ⟨rfl, hb'⟩; (first | (have hb2 := bstep hb' hb hb.size; clear hb' hcb hfb hz1 hz2 hz3 hz4 hb; have hb := hb2; clear hb2) | (have hb := hb'; clear hb')); obtain ⟨hcb, hfb, hz1, hz2, hz3, hz4⟩ := bcell hb; (try simp only [World.size_alloc, World.size_setCell, World.size_drew, Nat.lt_add_one_iff, Nat.add_assoc, Nat.reduceAdd] at hz1 hz2 hz3 hz4); (have q0x0 := hcb w.heap.size 0 (by simp <;> omega)); (simp [go_sem] at q0x0); (have q0x1 := hcb w.heap.size 1 (by simp <;> omega)); (simp [go_sem] at q0x1); (have q0x2 := hcb w.heap.size 2 (by simp <;> omega)); (simp [go_sem] at q0x2); (have q1x0 := hcb (w.heap.size + 1) 0 (by simp <;> omega)); (simp [go_sem] at q1x0); (have q1x1 := hcb (w.heap.size + 1) 1 (by simp <;> omega)); (simp [go_sem] at q1x1); (have q1x2 := hcb (w.heap.size + 1) 2 (by simp <;> omega)); (simp [go_sem] at q1x2)) | (go_at_call 64; refine (l16Who_any _ _).mono ?_; rintro e w' ⟨rfl, rfl⟩) | (go_at_call 28; refine (l16Time_any _ _).mono ?_; rintro e w' ⟨rfl, rfl⟩) | (go_at_call 27; refine (l1In_any _ _ _ _).mono ?_; rintro e w' ⟨rfl, rfl⟩) | (go_at_call 76; refine (max_any _ _ _).mono ?_; rintro e w' ⟨rfl, rfl⟩))
    all_goals refine bodyPost_ret (v := .tuple #[.agg #[.int .i64 (0), .int .i64 (0), .int .i64 (0)], .bool false]) (by simp [results, Try.results51, go_sem, *] <;> omega) rfl ⟨rfl, by (repeat' (first | (with_reducible exact Below.refl _ _) | (with_reducible assumption) | (with_reducible refine Below.alloc ?_ ?_ _) | (with_reducible refine Below.drew ?_) | (with_reducible refine Below.setCell ?_ ?_ _) | (with_reducible refine bstep (by assumption) ?_ ?_) | (with_reducible exact Nat.le_refl _) | omega | (simp [*]; done) | (simp [*]; omega)))⟩
end Go.Proofs.Ytokklkmibjpjnaa
namespace Go.Proofs.Ytokklkmibjpjnaa
set_option linter.unusedSimpArgs false
set_option linter.unusedVariables false
attribute [local go_sem] n_lt2 n_lt3 n_lt4 n_le2 n_le3
open Go.RowKit
attribute [local go_sem] Ext.cell Ext.frozen
/-- What an effect hands back: a state (told where the effect took place) and whether it did. -/
def RetEff (w : World) (lo : Nat) (i0 t0 : Int) (pl : List Pr) (ql : List Jb) (h e u : Int) (ok : Bool) (en : Ending) (w' : World) : Prop :=
  ∃ (A : Option Addr) (n c : Nat) (B : Option Addr) (m d : Nat) (h' e' u' : Int), en = .returned (.tuple #[.agg #[.int .i64 i0, .int .i64 t0, .slice A n c, .slice B m d, .int .i64 h', .int .i64 e', .int .i64 u'], .bool ok]) ∧ Below w.heap.size w w' ∧
    (ok = true → h' = h ∧ e' = e ∧ u' = u ∧ Sl w' 2 A n (PR pl) ∧ pl.length = n ∧ (A = none → n = 0 ∧ c = 0) ∧ Sl w' 5 B m (JB ql) ∧ ql.length = m ∧ (B = none → m = 0 ∧ d = 0) ∧ (0 < n → ∀ a, A = some a → a.block < lo ∨ w.heap.size ≤ a.block) ∧ (0 < m → ∀ a, B = some a → a.block < lo ∨ w.heap.size ≤ a.block))
theorem RetEff.of {w w' : World} {lo : Nat} {i0 t0 : Int} {pl pl2 : List Pr} {ql ql2 : List Jb} {h e u : Int} {ok : Bool} {A : Option Addr} {n c : Nat} {B : Option Addr} {m d : Nat} (b : Below w.heap.size w w') (hp : pl2 = pl) (hq : ql2 = ql) (h1 : Sl w' 2 A n (PR pl)) (h2 : pl.length = n) (h3 : A = none → n = 0 ∧ c = 0) (h4 : Sl w' 5 B m (JB ql)) (h5 : ql.length = m) (h6 : B = none → m = 0 ∧ d = 0) (h7 : 0 < n → ∀ a, A = some a → a.block < lo ∨ w.heap.size ≤ a.block) (h8 : 0 < m → ∀ a, B = some a → a.block < lo ∨ w.heap.size ≤ a.block) :
    RetEff w lo i0 t0 pl2 ql2 h e u ok (.returned (.tuple #[.agg #[.int .i64 i0, .int .i64 t0, .slice A n c, .slice B m d, .int .i64 h, .int .i64 e, .int .i64 u], .bool ok])) w' := by
  subst hp hq
  exact ⟨A, n, c, B, m, d, h, e, u, rfl, b, fun _ => ⟨rfl, rfl, rfl, h1, h2, h3, h4, h5, h6, h7, h8⟩⟩
theorem RetEff.no {w w' : World} {lo : Nat} {i0 t0 : Int} {pl2 : List Pr} {ql2 : List Jb} {h2 e2 u2 h e u : Int} {A : Option Addr} {n c : Nat} {B : Option Addr} {m d : Nat} (b : Below w.heap.size w w') :
    RetEff w lo i0 t0 pl2 ql2 h2 e2 u2 false (.returned (.tuple #[.agg #[.int .i64 i0, .int .i64 t0, .slice A n c, .slice B m d, .int .i64 h, .int .i64 e, .int .i64 u], .bool false])) w' :=
  ⟨A, n, c, B, m, d, h, e, u, rfl, b, fun hh => absurd hh (by decide)⟩
end Go.Proofs.Ytokklkmibjpjnaa
namespace Go.Proofs.Ytokklkmibjpjnaa
set_option linter.unusedSimpArgs false
set_option linter.unusedVariables false
attribute [local go_sem] n_lt2 n_lt3 n_lt4 n_le2 n_le3
open Go.RowKit
theorem fset_len (l : List Jb) (k : Nat) (x : Int) : (firedSet l k x).length = l.length := by unfold firedSet; simp
theorem fset_get (l : List Jb) (k : Nat) (x : Int) (hk : k < l.length) (j : Nat) : (firedSet l k x).getD j default = if j = k then { (l.getD k default) with f := x } else l.getD j default := by
  unfold firedSet
  by_cases h : j = k
  · subst h
    rw [if_pos rfl, List.getD_eq_getElem?_getD, List.getElem?_set_self hk]
    rfl
  · rw [if_neg h, List.getD_eq_getElem?_getD, List.getElem?_set_ne (fun e => h e.symm), ← List.getD_eq_getElem?_getD]
theorem fset_i (l : List Jb) (k : Nat) (x : Int) (hk : k < l.length) (j : Nat) : ((firedSet l k x).getD j default).i = (l.getD j default).i := by
  rw [fset_get l k x hk]
  split
  · rename_i h; subst h; rfl
  · rfl
theorem before_iff (l : List Jb) (i : Nat) (x : Int) : firedBefore l i x = true ↔ ∃ m, m < i ∧ (l.getD m default).f = x := by
  unfold firedBefore
  simp [List.any_eq_true]
theorem firedOk_parts {l : List Jb} {id x : Int} (h : firedOk l id x = true) : jobIx l id < l.length ∧ (l.getD (jobIx l id) default).f = 0 ∧ 1 ≤ x ∧ x ≤ 2000 ∧ ∀ m, m < l.length → (l.getD m default).f ≠ x := by
  unfold firedOk at h
  simp only [Bool.and_eq_true, decide_eq_true_eq, inB_iff, Bool.not_eq_true'] at h
  obtain ⟨h1, h2, ⟨h3, h4⟩, h5⟩ := h
  refine ⟨h1, h2, h3, h4, fun m hm he => ?_⟩
  have := (before_iff l l.length x).2 ⟨m, hm, he⟩
  rw [h5] at this
  cases this
theorem fset_ok {l : List Jb} {id x : Int} (hb : jobsB l = true) (ho : firedOk l id x = true) : jobsB (firedSet l (jobIx l id) x) = true := by
  obtain ⟨hk, hf, hx1, hx2, hno⟩ := firedOk_parts ho
  generalize jobIx l id = k at hk hf ⊢
  obtain ⟨h8, hall⟩ := jobsB_all hb
  refine jobsB_true (by rw [fset_len]; exact h8) (fun j hj => ?_)
  rw [fset_len] at hj
  have hj0 := hall j hj
  unfold jobAtB at hj0 ⊢
  simp only [Bool.and_eq_true, Bool.or_eq_true, decide_eq_true_eq, Bool.not_eq_true', Bool.and_eq_false_iff, decide_eq_false_iff_not] at hj0 ⊢
  obtain ⟨h1, h2, h3⟩ := hj0
  refine ⟨?_, ?_, ?_⟩
  · rw [fset_get l k x hk]
    split
    · rename_i h
      subst h
      unfold jobOkB jobB at h1 ⊢
      simp only [Bool.and_eq_true, inB_iff] at h1 ⊢
      omega
    · exact h1
  · rw [fset_i l k x hk, fset_i l k x hk]
    exact h2
  · by_cases h : j = k
    · subst h
      right
      rw [Bool.eq_false_iff]
      intro hc
      obtain ⟨m, hm, he⟩ := (before_iff _ _ _).1 hc
      rw [fset_get l j x hk, fset_get l j x hk, if_neg (by omega), if_pos rfl] at he
      exact hno m (by omega) he
    · rw [fset_get l k x hk, if_neg h]
      rcases h3 with h3 | h3
      · exact .inl h3
      · right
        rw [Bool.eq_false_iff]
        intro hc
        obtain ⟨m, hm, he⟩ := (before_iff _ _ _).1 hc
        rw [fset_get l k x hk] at he
        by_cases hmk : m = k
        · rw [if_pos hmk] at he
          exact hno j hj he.symm
        · rw [if_neg hmk] at he
          have := (before_iff l j _).2 ⟨m, hm, he⟩
          rw [h3] at this
          cases this
/-- What the law asks of a job list in which a job was just fired. -/
theorem once_job {l : List Jb} {id x : Int} (hb : jobsB l = true) (ho : firedOk l id x = true) :
    jobsB (firedSet l (jobIx l id) x) = true ∧ (jobAtV (firedSet l (jobIx l id) x) id).2 = true ∧ (jobAtV (firedSet l (jobIx l id) x) id).1.f = x ∧ (∀ y, (firedR (firedSet l (jobIx l id) x) id y).2 = false) ∧ (∀ b c d f, (addR (firedSet l (jobIx l id) x) ⟨id, b, c, d, f⟩).2 = false) := by
  have hB := fset_ok hb ho
  obtain ⟨hk, hf, hx1, hx2, hno⟩ := firedOk_parts ho
  have hid := jobIx_hit hk
  have hix : jobIx (firedSet l (jobIx l id) x) id = jobIx l id := jobIx_at hB (by rw [fset_len]; exact hk) (by rw [fset_i l _ x hk]; exact hid)
  have hv : jobAtV (firedSet l (jobIx l id) x) id = ((firedSet l (jobIx l id) x).getD (jobIx l id) default, true) := by
    unfold jobAtV
    rw [hix, fset_len, if_pos hk]
  refine ⟨hB, by rw [hv], by rw [hv, fset_get l _ x hk, if_pos rfl], fun y => ?_, fun b c d f => ?_⟩
  · unfold firedR
    rw [if_pos hB]
    have hn : firedOk (firedSet l (jobIx l id) x) id y = false := by
      unfold firedOk
      rw [hix, fset_get l _ x hk, if_pos rfl]
      have : decide (x = 0) = false := by simp; omega
      simp only [this, Bool.false_and, Bool.and_false]
    rw [if_neg (by rw [hn]; decide)]
  · unfold addR
    rw [if_pos hB]
    have hn : addOk (firedSet l (jobIx l id) x) ⟨id, b, c, d, f⟩ = false := by
      unfold addOk
      simp only [hv]
      simp
    rw [if_neg (by rw [hn]; decide)]
theorem once_of {l z : List Jb} {id x : Int} (h : firedR l id x = (z, true)) : jobsB z = true ∧ (jobAtR z id).2 = true ∧ (jobAtR z id).1.f = x ∧ (∀ y, (firedR z id y).2 = false) ∧ (∀ b c d f, (addR z ⟨id, b, c, d, f⟩).2 = false) := by
  unfold firedR at h
  split at h
  · rename_i hb
    split at h
    · rename_i ho
      injection h with h1 _
      subst h1
      obtain ⟨a, b, c, d, e⟩ := once_job hb ho
      unfold jobAtR
      rw [if_pos a]
      exact ⟨a, b, c, d, e⟩
    · injection h with _ h2; cases h2
  · injection h with _ h2; cases h2
end Go.Proofs.Ytokklkmibjpjnaa
namespace Go.Proofs.Ytokklkmibjpjnaa
set_option linter.unusedSimpArgs false
set_option linter.unusedVariables false
attribute [local go_sem] n_lt2 n_lt3 n_lt4 n_le2 n_le3
open Go.RowKit
structure Ef where
  p : List Pr
  q : List Jb
  h : Int
  e : Int
  u : Int
def effE (l0 l1 l2 : Int) (pl : List Pr) (ql : List Jb) (ex et ec es ek ea eb eg eh : Int) : Ef × Bool :=
  if ek = 1 then (⟨(putR pl ea eb).1, ql, l0, l1, l2⟩, (putR pl ea eb).2)
  else if ek = 2 then (⟨(cutR pl ea).1, ql, l0, l1, l2⟩, (cutR pl ea).2)
  else if ek = 3 then (⟨pl, (addR ql ⟨ea, eb, eg, eh, 0⟩).1, l0, l1, l2⟩, (addR ql ⟨ea, eb, eg, eh, 0⟩).2)
  else if ek = 4 then (if firesB l0 l1 l2 ql et ec ek ea eb = true then (⟨(putR pl (jobAtV ql ea).1.k (jobAtV ql ea).1.v).1, (firedR ql (jobAtV ql ea).1.i ex).1, l0, l1, l2⟩, true) else (⟨pl, ql, l0, l1, l2⟩, false))
  else (⟨pl, ql, (grantL l0 l1 l2 ec et ea).1.1, (grantL l0 l1 l2 ec et ea).1.2.1, (grantL l0 l1 l2 ec et ea).1.2.2⟩, (grantL l0 l1 l2 ec et ea).2)
/-- The state behind the next entry (its index and time are the entry's). -/
def appE (l0 l1 l2 : Int) (pl : List Pr) (ql : List Jb) (ex et ec es ek ea eb eg eh : Int) : Ef := if (effE l0 l1 l2 pl ql ex et ec es ek ea eb eg eh).2 = true then (effE l0 l1 l2 pl ql ex et ec es ek ea eb eg eh).1 else ⟨pl, ql, l0, l1, l2⟩
def appI (l0 l1 l2 : Int) (pl : List Pr) (ql : List Jb) (ex et ec es ek ea eb eg eh : Int) : Int := if (effE l0 l1 l2 pl ql ex et ec es ek ea eb eg eh).2 = true then ek else 0
def effI (i0 t0 l0 l1 l2 : Int) (pl : List Pr) (ql : List Jb) (ex et ec es ek ea eb eg eh : Int) : Int := if nextInB i0 t0 l0 l1 l2 pl ql ex et ec es ek ea eb eg eh = true then appI l0 l1 l2 pl ql ex et ec es ek ea eb eg eh else -1

theorem ef_pairs_right {l : List Pr} (h : pairsB l = true) : ∀ p ∈ l, rightB p.k p.v = true := fun p hp => by
  obtain ⟨i, hi, rfl⟩ := List.getElem_of_mem hp
  have := pairsB_all h i hi
  simp only [List.getD, List.getElem?_eq_getElem hi, Option.getD_some, pairAt, Bool.and_eq_true] at this
  unfold rightB
  rw [this.1, this.2.1]
  rfl
theorem ef_pairs_mk {l : List Pr} (h : l.Pairwise (fun p q => p.k < q.k)) (hr : ∀ p ∈ l, rightB p.k p.v = true) : pairsB l = true := by
  refine all_range_true (fun i hi => ?_)
  have h1 := hr l[i] (List.getElem_mem hi)
  unfold rightB at h1
  simp only [Bool.and_eq_true] at h1
  unfold pairAt
  have e1 : l.getD i default = l[i] := by simp [List.getD, hi]
  rw [e1, h1.1, h1.2]
  by_cases h0 : i = 0
  · simp [h0]
  · have e2 : l.getD (i - 1) default = l[i - 1] := by simp [List.getD, show i - 1 < l.length by omega]
    have := List.pairwise_iff_getElem.1 h (i - 1) i (by omega) hi (by omega)
    rw [e2, decide_eq_true this]
    simp
theorem ef_put_ok {l : List Pr} {key v : Int} (h : pairsB l = true) : pairsB (putR l key v).1 = true := by
  unfold putR
  rw [if_pos h]
  split
  · rename_i hr
    exact ef_pairs_mk (putL_lt key v (pairs_lt h)) (fun p hp => by
      rcases putL_mem hp with rfl | hp
      · exact hr
      · exact ef_pairs_right h p hp)
  · exact h
theorem ef_cut_ok {l : List Pr} {key : Int} (h : pairsB l = true) : pairsB (cutR l key).1 = true := by
  unfold cutR
  rw [if_pos h]
  exact ef_pairs_mk ((pairs_lt h).filter _) (fun p hp => ef_pairs_right h p (List.mem_filter.1 hp).1)
theorem ef_cut_is {l : List Pr} {key : Int} (h : pairsB l = true) : (valueAtB l key).2 = (cutR l key).2 := by
  unfold valueAtB cutR valAt
  rw [if_pos h, if_pos h]
  by_cases hk : keyIx l key < l.length
  · rw [if_pos hk, cutL_hit h hk]
    exact (decide_eq_true (by omega)).symm
  · rw [if_neg hk, cutL_miss hk]
    exact (decide_eq_false (by omega)).symm
theorem ef_jobs_mk {l : List Jb} (h8 : l.length ≤ 8) (h : l.Pairwise (fun p q => p.i < q.i)) (hr : ∀ p ∈ l, jobOkB p = true) (hf : l.Pairwise (fun p q => 0 < q.f → p.f ≠ q.f)) : jobsB l = true := by
  refine jobsB_true h8 (fun j hj => ?_)
  have e1 : l.getD j default = l[j] := by simp [List.getD, hj]
  unfold jobAtB
  rw [e1, hr l[j] (List.getElem_mem hj)]
  have h1 : (decide (j = 0) || decide ((l.getD (j - 1) default).i < (l[j]).i)) = true := by
    by_cases h0 : j = 0
    · simp [h0]
    · have e2 : l.getD (j - 1) default = l[j - 1] := by simp [List.getD, show j - 1 < l.length by omega]
      have := List.pairwise_iff_getElem.1 h (j - 1) j (by omega) hj (by omega)
      rw [e2, decide_eq_true this]
      simp
  have h2 : (decide (0 < (l[j]).f) && firedBefore l j (l[j]).f) = false := by
    by_cases h0 : 0 < (l[j]).f
    · rw [firedBefore_false (fun k hk => by
        have e3 : l.getD k default = l[k] := by simp [List.getD, show k < l.length by omega]
        rw [e3]
        exact List.pairwise_iff_getElem.1 hf k j (by omega) hj hk h0)]
      simp
    · rw [decide_eq_false h0]
      rfl
  rw [h1, h2]
  rfl
theorem ef_jobs_f {l : List Jb} (h : jobsB l = true) : l.Pairwise (fun p q => 0 < q.f → p.f ≠ q.f) := by
  rw [List.pairwise_iff_getElem]
  intro i j hi hj hij h0 he
  have := (jobsB_all h).2 j hj
  unfold jobAtB at this
  simp only [Bool.and_eq_true, Bool.not_eq_true', Bool.and_eq_false_iff, decide_eq_false_iff_not] at this
  have e1 : l.getD j default = l[j] := by simp [List.getD, hj]
  have e2 : l.getD i default = l[i] := by simp [List.getD, hi]
  rw [e1] at this
  rcases this.2.2 with h1 | h1
  · exact h1 h0
  · rw [firedBefore_true hij (by rw [e2]; exact he)] at h1
    cases h1
theorem ef_jobs_ok {l : List Jb} (h : jobsB l = true) : ∀ p ∈ l, jobOkB p = true := fun p hp => by
  obtain ⟨i, hi, rfl⟩ := List.getElem_of_mem hp
  have := jobAtB_ok ((jobsB_all h).2 i hi)
  simpa only [List.getD, List.getElem?_eq_getElem hi, Option.getD_some] using this
theorem ef_addL_pw {R : Jb → Jb → Prop} {l : List Jb} {x : Jb} (h : l.Pairwise R) (h1 : ∀ p ∈ l, R p x) (h2 : ∀ p ∈ l, R x p) : (addL l x).Pairwise R := by
  induction l with
  | nil => simp [addL]
  | cons p t ih =>
    rw [List.pairwise_cons] at h
    rw [addL]
    split
    · rw [List.pairwise_cons]
      refine ⟨fun q hq => ?_, ih h.2 (fun q hq => h1 q (by simp [hq])) (fun q hq => h2 q (by simp [hq]))⟩
      rcases addL_mem hq with rfl | hq
      · exact h1 p (by simp)
      · exact h.1 q hq
    · rw [List.pairwise_cons, List.pairwise_cons]
      exact ⟨fun q hq => h2 q hq, h⟩
theorem ef_fired_iff {l : List Jb} {i : Int} : firedIn l i = true ↔ ∀ p ∈ l, p.f ≤ i := by
  unfold firedIn
  rw [List.all_eq_true]
  constructor
  · intro h p hp
    obtain ⟨k, hk, rfl⟩ := List.getElem_of_mem hp
    have := h k (List.mem_range.2 hk)
    simpa only [List.getD, List.getElem?_eq_getElem hk, Option.getD_some, decide_eq_true_eq] using this
  · intro h k hk
    rw [List.mem_range] at hk
    have := h l[k] (List.getElem_mem hk)
    simpa only [List.getD, List.getElem?_eq_getElem hk, Option.getD_some, decide_eq_true_eq] using this
theorem ef_add_ok {l : List Jb} {x : Jb} (h : jobsB l = true) : jobsB (addR l x).1 = true := by
  unfold addR
  rw [if_pos h]
  split
  · rename_i ha
    unfold addOk at ha
    simp only [Bool.and_eq_true, decide_eq_true_eq, Bool.not_eq_true'] at ha
    obtain ⟨hj, hf, ht, hl⟩ := ha
    refine ef_jobs_mk (by rw [addL_len]; omega) (addL_lt (jobs_lt h) (jobAtV_there ht)) (fun p hp => ?_) (ef_addL_pw (ef_jobs_f h) (fun p _ h0 => by omega) (fun p _ h0 => by omega))
    rcases addL_mem hp with rfl | hp
    · exact hj
    · exact ef_jobs_ok h p hp
  · exact h
theorem ef_add_in {l : List Jb} {x : Jb} {i : Int} (h : firedIn l i = true) (hx : x.f ≤ i) : firedIn (addR l x).1 i = true := by
  unfold addR
  split
  · split
    · rw [ef_fired_iff] at h ⊢
      intro p hp
      rcases addL_mem hp with rfl | hp
      · exact hx
      · exact h p hp
    · exact h
  · rw [ef_fired_iff]; simp
theorem ef_fire_ok {l : List Jb} {id x : Int} (h : jobsB l = true) : jobsB (firedR l id x).1 = true := by
  unfold firedR
  rw [if_pos h]
  split
  · rename_i ho
    exact fset_ok h ho
  · exact h
theorem ef_fire_in {l : List Jb} {id x i : Int} (h : firedIn l i = true) (hx : x ≤ i) : firedIn (firedR l id x).1 i = true := by
  unfold firedR
  split
  · split
    · rename_i ho
      obtain ⟨hk, _⟩ := firedOk_parts ho
      unfold firedIn at h ⊢
      rw [List.all_eq_true] at h ⊢
      intro j hj
      rw [List.mem_range, fset_len] at hj
      rw [fset_get l _ x hk]
      split
      · exact decide_eq_true hx
      · exact h j (List.mem_range.2 hj)
    · exact h
  · rw [ef_fired_iff]; simp
theorem ef_fired_mono {l : List Jb} {i j : Int} (h : firedIn l i = true) (hij : i ≤ j) : firedIn l j = true := by
  rw [ef_fired_iff] at h ⊢
  exact fun p hp => Int.le_trans (h p hp) hij
theorem ef_who_iff (x : Int) : whoB x = true ↔ x = 2 ∨ x = 3 := by unfold whoB; simp
theorem ef_lease_mk {h e u : Int} (h1 : h = 2 ∨ h = 3) (h2 : 1 ≤ e ∧ e ≤ 1000) (h3 : 1 ≤ u ∧ u ≤ 1001000) : leaseB h e u = true := by
  unfold leaseB
  rw [(ef_who_iff h).2 h1, (inB_iff _ _ _).2 h2, (inB_iff _ _ _).2 h3]
  simp
theorem ef_grant_ok {h e u who t long : Int} (hl : leaseB h e u = true) : leaseB (grantL h e u who t long).1.1 (grantL h e u who t long).1.2.1 (grantL h e u who t long).1.2.2 = true := by
  have hb : (h = 0 ∧ e = 0 ∧ u = 0) ∨ ((h = 2 ∨ h = 3) ∧ 1 ≤ e ∧ e ≤ 1000 ∧ 1 ≤ u ∧ u ≤ 1001000) := by
    have hl' := hl
    unfold leaseB at hl'
    simp only [Bool.or_eq_true, Bool.and_eq_true, decide_eq_true_eq, inB_iff, ef_who_iff] at hl'
    rcases hl' with hl' | hl'
    · exact .inl hl'
    · exact .inr ⟨hl'.1, hl'.2.1.1, hl'.2.1.2, hl'.2.2.1, hl'.2.2.2⟩
  unfold grantL
  rw [if_pos hl]
  split
  · rename_i hw
    simp only [Bool.and_eq_true, inB_iff, ef_who_iff] at hw
    split
    · rename_i he
      exact ef_lease_mk (by simp only; omega) (by simp only; omega) (by simp only; omega)
    · split
      · rename_i hg
        simp only [Bool.and_eq_true, decide_eq_true_eq] at hg
        exact ef_lease_mk (by simp only; omega) (by simp only; omega) (by simp only; omega)
      · exact hl
  · exact hl
theorem stateB_all {i0 t0 l0 l1 l2 : Int} {pl : List Pr} {ql : List Jb} (h : stateB i0 t0 l0 l1 l2 pl ql = true) : (0 ≤ i0 ∧ i0 ≤ 2000) ∧ (0 ≤ t0 ∧ t0 ≤ 1000000) ∧ pairsB pl = true ∧ jobsB ql = true ∧ leaseB l0 l1 l2 = true ∧ firedIn ql i0 = true := by
  unfold stateB at h
  simp only [Bool.and_eq_true, inB_iff] at h
  exact ⟨h.1, h.2.1, h.2.2.1, h.2.2.2.1, h.2.2.2.2.1, h.2.2.2.2.2⟩
theorem stateB_mk {i0 t0 l0 l1 l2 : Int} {pl : List Pr} {ql : List Jb} (h1 : 0 ≤ i0 ∧ i0 ≤ 2000) (h2 : 0 ≤ t0 ∧ t0 ≤ 1000000) (h3 : pairsB pl = true) (h4 : jobsB ql = true) (h5 : leaseB l0 l1 l2 = true) (h6 : firedIn ql i0 = true) : stateB i0 t0 l0 l1 l2 pl ql = true := by
  unfold stateB
  rw [(inB_iff _ _ _).2 h1, (inB_iff _ _ _).2 h2, h3, h4, h5, h6]
  rfl
theorem nextB_parts {i0 t0 ex et ec es ek ea eb eg eh : Int} (h : nextB i0 t0 ex et ec es ek ea eb eg eh = true) : (1 ≤ ex ∧ ex ≤ 2000) ∧ (0 ≤ et ∧ et ≤ 1000000) ∧ (2 ≤ ec ∧ ec ≤ 5) ∧ (1 ≤ es ∧ es ≤ 2000) ∧ opB ek ea eb eg eh = true ∧ ex = i0 + 1 ∧ t0 ≤ et := by
  unfold nextB entryB at h
  simp only [Bool.and_eq_true, inB_iff, beq_iff_eq, decide_eq_true_eq] at h
  exact ⟨h.1.1, h.1.2.1, h.1.2.2.1, h.1.2.2.2.1, h.1.2.2.2.2, h.2.1, h.2.2⟩
theorem opB_kind {k a b c d : Int} (h : opB k a b c d = true) : k = 1 ∨ k = 2 ∨ k = 3 ∨ k = 4 ∨ k = 5 := by
  unfold opB at h
  repeat' split at h
  all_goals first | omega | (exact absurd h (by decide))
theorem eff_ok {i0 t0 l0 l1 l2 : Int} {pl : List Pr} {ql : List Jb} {ex et ec es ek ea eb eg eh : Int} (h : stateB i0 t0 l0 l1 l2 pl ql = true) (hn : nextB i0 t0 ex et ec es ek ea eb eg eh = true) :
    stateB ex et (effE l0 l1 l2 pl ql ex et ec es ek ea eb eg eh).1.h (effE l0 l1 l2 pl ql ex et ec es ek ea eb eg eh).1.e (effE l0 l1 l2 pl ql ex et ec es ek ea eb eg eh).1.u (effE l0 l1 l2 pl ql ex et ec es ek ea eb eg eh).1.p (effE l0 l1 l2 pl ql ex et ec es ek ea eb eg eh).1.q = true := by
  obtain ⟨a1, a2, a3, a4, a5, a6⟩ := stateB_all h
  obtain ⟨b1, b2, b3, b4, b5, b6, b7⟩ := nextB_parts hn
  have a6' := ef_fired_mono (j := ex) a6 (by omega)
  have c1 : 0 ≤ ex ∧ ex ≤ 2000 := by omega
  unfold effE
  split
  · exact stateB_mk c1 b2 (ef_put_ok a3) a4 a5 a6'
  · split
    · exact stateB_mk c1 b2 (ef_cut_ok a3) a4 a5 a6'
    · split
      · exact stateB_mk c1 b2 a3 (ef_add_ok a4) a5 (ef_add_in a6' (by simp only; omega))
      · split
        · split
          · exact stateB_mk c1 b2 (ef_put_ok a3) (ef_fire_ok a4) a5 (ef_fire_in a6' (Int.le_refl _))
          · exact stateB_mk c1 b2 a3 a4 a5 a6'
        · exact stateB_mk c1 b2 a3 a4 (ef_grant_ok a5) a6'
/-- The next entry of a valid state leads to a valid state. -/
theorem app_ok {i0 t0 l0 l1 l2 : Int} {pl : List Pr} {ql : List Jb} {ex et ec es ek ea eb eg eh : Int} (h : stateB i0 t0 l0 l1 l2 pl ql = true) (hn : nextB i0 t0 ex et ec es ek ea eb eg eh = true) :
    stateB ex et (appE l0 l1 l2 pl ql ex et ec es ek ea eb eg eh).h (appE l0 l1 l2 pl ql ex et ec es ek ea eb eg eh).e (appE l0 l1 l2 pl ql ex et ec es ek ea eb eg eh).u (appE l0 l1 l2 pl ql ex et ec es ek ea eb eg eh).p (appE l0 l1 l2 pl ql ex et ec es ek ea eb eg eh).q = true := by
  unfold appE
  split
  · exact eff_ok h hn
  · obtain ⟨a1, a2, a3, a4, a5, a6⟩ := stateB_all h
    obtain ⟨b1, b2, b3, b4, b5, b6, b7⟩ := nextB_parts hn
    exact stateB_mk (by omega) b2 a3 a4 a5 (ef_fired_mono a6 (by omega))
theorem stateB_lens {i0 t0 l0 l1 l2 : Int} {pl : List Pr} {ql : List Jb} (h : stateB i0 t0 l0 l1 l2 pl ql = true) : pl.length ≤ 10 ∧ ql.length ≤ 8 := by
  obtain ⟨a1, a2, a3, a4, a5, a6⟩ := stateB_all h
  exact ⟨pairsB_len a3, (jobsB_all a4).1⟩
/-- The reference's tests, kind by kind. -/
theorem put_does {i0 t0 l0 l1 l2 : Int} {pl : List Pr} {ql : List Jb} {ex et ec es ea eb eg eh : Int} (h : stateB i0 t0 l0 l1 l2 pl ql = true) (hn : nextB i0 t0 ex et ec es 1 ea eb eg eh = true) : (putR pl ea eb).2 = true := by
  obtain ⟨a1, a2, a3, a4, a5, a6⟩ := stateB_all h
  obtain ⟨b1, b2, b3, b4, b5, b6, b7⟩ := nextB_parts hn
  unfold opB at b5
  rw [if_pos rfl] at b5
  simp only [Bool.and_eq_true] at b5
  unfold putR
  rw [if_pos a3, if_pos (by unfold rightB; rw [b5.1, b5.2.1]; rfl)]
theorem job_id {ql : List Jb} {ea : Int} (h : (jobAtV ql ea).2 = true) : (jobAtV ql ea).1.i = ea := by
  unfold jobAtV at h ⊢
  by_cases hk : jobIx ql ea < ql.length
  · rw [if_pos hk]
    exact jobIx_hit hk
  · rw [if_neg hk] at h
    cases h
theorem fires_id {l0 l1 l2 : Int} {ql : List Jb} {et ec ek ea eb : Int} (h : firesB l0 l1 l2 ql et ec ek ea eb = true) : (jobAtV ql ea).1.i = ea ∧ (jobAtV ql ea).2 = true := by
  unfold firesB at h
  simp only [Bool.and_eq_true] at h
  exact ⟨job_id h.2.1, h.2.1⟩
end Go.Proofs.Ytokklkmibjpjnaa
namespace Go.Proofs.Ytokklkmibjpjnaa
set_option linter.unusedSimpArgs false
set_option linter.unusedVariables false
attribute [local go_sem] n_lt2 n_lt3 n_lt4 n_le2 n_le3
open Go.RowKit
attribute [local go_sem] Ext.cell Ext.frozen
/-- A state of the call's own, and another value. -/
def RetStateV (w : World) (i0 t0 l0 l1 l2 : Int) (n : Nat) (zp : List Int) (m : Nat) (zq : List Int) (x : Value) (en : Ending) (w' : World) : Prop :=
  ∃ A c B d, en = .returned (.tuple #[.agg #[.int .i64 i0, .int .i64 t0, .slice A n c, .slice B m d, .int .i64 l0, .int .i64 l1, .int .i64 l2], x]) ∧ Row w' w.heap.size 82 2 A n c zp ∧ Row w' w.heap.size 70 5 B m d zq ∧ (∀ a b, A = some a → B = some b → a.block ≠ b.block) ∧ Below w.heap.size w w'
theorem tb_dr {v w' : World} (h : Below v.drew.heap.size v.drew w') : Below v.heap.size v w' := ⟨h.os, h.tape, h.output, h.size, h.block⟩
theorem tb_al {v w' : World} {x : Obj} (h : Below (v.alloc x).heap.size (v.alloc x) w') : Below v.heap.size v w' := bthen ((Below.refl _ _).alloc (Nat.le_refl _) _) h
theorem tb_da {v w' : World} {x : Obj} (h : Below (v.alloc x).drew.heap.size (v.alloc x).drew w') : Below v.heap.size v w' := tb_al (tb_dr h)
theorem tb_ad {v w' : World} {x : Obj} (h : Below (v.drew.alloc x).heap.size (v.drew.alloc x) w') : Below v.heap.size v w' := tb_dr (tb_al h)
theorem t_drew_size (v : World) : v.heap.size = v.drew.heap.size := rfl
theorem t_below2 {w w' : World} {g : Nat} {e : TypeId} {cs : Array Value} (hb : Below w.heap.size w w') (h : Blk w g e cs) : Blk w' g e cs := h.below hb
theorem t_size_alloc (v : World) (x : Obj) : (v.alloc x).heap.size = v.heap.size + 1 := by simp
theorem hn_drew {W v : World} {s k : Nat} (h : ∀ b o, b < s → b ≠ k → v.cell? ⟨b, o, none⟩ = W.cell? ⟨b, o, none⟩) : ∀ b o, b < s → b ≠ k → v.drew.cell? ⟨b, o, none⟩ = W.cell? ⟨b, o, none⟩ := h
theorem hn_set {W v : World} {s k : Nat} (h : ∀ b o, b < s → b ≠ k → v.cell? ⟨b, o, none⟩ = W.cell? ⟨b, o, none⟩) (j : Nat) (y : Value) : ∀ b o, b < s → b ≠ k → (v.setCell ⟨k, j, none⟩ y).cell? ⟨b, o, none⟩ = W.cell? ⟨b, o, none⟩ := fun b o hb hk => (World.cell?_setCell_far _ _ _ _ (by show k ≠ b; omega)).trans (h b o hb hk)
theorem hn_set7 {W v : World} {s k : Nat} (h : ∀ b o, b < s → b ≠ k → v.cell? ⟨b, o, none⟩ = W.cell? ⟨b, o, none⟩) (y0 y1 y2 y3 y4 y5 y6 : Value) : ∀ b o, b < s → b ≠ k → (((((((v.setCell ⟨k, 0, none⟩ y0).setCell ⟨k, 1, none⟩ y1).setCell ⟨k, 2, none⟩ y2).setCell ⟨k, 3, none⟩ y3).setCell ⟨k, 4, none⟩ y4).setCell ⟨k, 5, none⟩ y5).setCell ⟨k, 6, none⟩ y6).cell? ⟨b, o, none⟩ = W.cell? ⟨b, o, none⟩ := hn_set (hn_set (hn_set (hn_set (hn_set (hn_set (hn_set h 0 y0) 1 y1) 2 y2) 3 y3) 4 y4) 5 y5) 6 y6
theorem row_far7 {w : World} {lo g E s : Nat} {A : Option Addr} {n c : Nat} {zs : List Int} (R : Row w lo E s A n c zs) (h : ∀ a, A = some a → a.block ≠ g) (y0 y1 y2 y3 y4 y5 y6 : Value) : Row (((((((w.setCell ⟨g, 0, none⟩ y0).setCell ⟨g, 1, none⟩ y1).setCell ⟨g, 2, none⟩ y2).setCell ⟨g, 3, none⟩ y3).setCell ⟨g, 4, none⟩ y4).setCell ⟨g, 5, none⟩ y5).setCell ⟨g, 6, none⟩ y6) lo E s A n c zs := ((((((R.far (p := ⟨g, 0, none⟩) h _).far (p := ⟨g, 1, none⟩) h _).far (p := ⟨g, 2, none⟩) h _).far (p := ⟨g, 3, none⟩) h _).far (p := ⟨g, 4, none⟩) h _).far (p := ⟨g, 5, none⟩) h _).far (p := ⟨g, 6, none⟩) h _
theorem sl_far7 {w : World} {g s : Nat} {A : Option Addr} {n : Nat} {zs : List Int} (R : Sl w s A n zs) (h : 0 < n → ∀ a, A = some a → a.block ≠ g) (y0 y1 y2 y3 y4 y5 y6 : Value) : Sl (((((((w.setCell ⟨g, 0, none⟩ y0).setCell ⟨g, 1, none⟩ y1).setCell ⟨g, 2, none⟩ y2).setCell ⟨g, 3, none⟩ y3).setCell ⟨g, 4, none⟩ y4).setCell ⟨g, 5, none⟩ y5).setCell ⟨g, 6, none⟩ y6) s A n zs := ((((((R.far (p := ⟨g, 0, none⟩) h _).far (p := ⟨g, 1, none⟩) h _).far (p := ⟨g, 2, none⟩) h _).far (p := ⟨g, 3, none⟩) h _).far (p := ⟨g, 4, none⟩) h _).far (p := ⟨g, 5, none⟩) h _).far (p := ⟨g, 6, none⟩) h _
theorem below_far7 {w0 w : World} {lo g : Nat} (B : Below lo w0 w) (h : lo ≤ g) (y0 y1 y2 y3 y4 y5 y6 : Value) : Below lo w0 (((((((w.setCell ⟨g, 0, none⟩ y0).setCell ⟨g, 1, none⟩ y1).setCell ⟨g, 2, none⟩ y2).setCell ⟨g, 3, none⟩ y3).setCell ⟨g, 4, none⟩ y4).setCell ⟨g, 5, none⟩ y5).setCell ⟨g, 6, none⟩ y6) := ((((((B.setCell (p := ⟨g, 0, none⟩) h _).setCell (p := ⟨g, 1, none⟩) h _).setCell (p := ⟨g, 2, none⟩) h _).setCell (p := ⟨g, 3, none⟩) h _).setCell (p := ⟨g, 4, none⟩) h _).setCell (p := ⟨g, 5, none⟩) h _).setCell (p := ⟨g, 6, none⟩) h _
theorem RetStateV.mk {w w' : World} {i0 t0 l0 l1 l2 : Int} {n m n1 m1 : Nat} {zp zq : List Int} {x : Value} {A B : Option Addr} {c d : Nat} (h1 : n = n1) (h2 : m = m1) (RP : Row w' w.heap.size 82 2 A n1 c zp) (RQ : Row w' w.heap.size 70 5 B m1 d zq) (h : ∀ a b, A = some a → B = some b → a.block ≠ b.block) (b : Below w.heap.size w w') :
    RetStateV w i0 t0 l0 l1 l2 n zp m zq x (.returned (.tuple #[.agg #[.int .i64 i0, .int .i64 t0, .slice A n1 c, .slice B m1 d, .int .i64 l0, .int .i64 l1, .int .i64 l2], x])) w' := by
  subst h1 h2
  exact ⟨A, c, B, d, rfl, RP, RQ, h, b⟩
end Go.Proofs.Ytokklkmibjpjnaa
namespace Go.Proofs.Ytokklkmibjpjnaa
set_option linter.unusedSimpArgs false
set_option linter.unusedVariables false
attribute [local go_sem] n_lt2 n_lt3 n_lt4 n_le2 n_le3
open Go.RowKit
attribute [local go_sem] Ext.cell Ext.frozen
end Go.Proofs.Ytokklkmibjpjnaa
namespace Go.Proofs.Ytokklkmibjpjnaa
set_option linter.unusedSimpArgs false
set_option linter.unusedVariables false
attribute [local go_sem] n_lt2 n_lt3 n_lt4 n_le2 n_le3
open Go.RowKit
attribute [local go_sem] Ext.cell Ext.frozen
end Go.Proofs.Ytokklkmibjpjnaa
namespace Go.Proofs.Ytokklkmibjpjnaa
set_option linter.unusedSimpArgs false
set_option linter.unusedVariables false
attribute [local go_sem] n_lt2 n_lt3 n_lt4 n_le2 n_le3
open Go.RowKit
attribute [local go_sem] Ext.cell Ext.frozen
end Go.Proofs.Ytokklkmibjpjnaa
namespace Go.Proofs.Ytokklkmibjpjnaa
set_option linter.unusedSimpArgs false
set_option linter.unusedVariables false
attribute [local go_sem] n_lt2 n_lt3 n_lt4 n_le2 n_le3
open Go.RowKit
attribute [local go_sem] Ext.cell Ext.frozen
end Go.Proofs.Ytokklkmibjpjnaa
namespace Go.Proofs.Ytokklkmibjpjnaa
set_option linter.unusedSimpArgs false
set_option linter.unusedVariables false
attribute [local go_sem] n_lt2 n_lt3 n_lt4 n_le2 n_le3
open Go.RowKit
attribute [local go_sem] Ext.cell Ext.frozen
end Go.Proofs.Ytokklkmibjpjnaa
namespace Go.Proofs.Ytokklkmibjpjnaa
set_option linter.unusedSimpArgs false
set_option linter.unusedVariables false
attribute [local go_sem] n_lt2 n_lt3 n_lt4 n_le2 n_le3
open Go.RowKit
attribute [local go_sem] Ext.cell Ext.frozen
end Go.Proofs.Ytokklkmibjpjnaa
namespace Go.Proofs.Ytokklkmibjpjnaa
set_option linter.unusedSimpArgs false
set_option linter.unusedVariables false
attribute [local go_sem] n_lt2 n_lt3 n_lt4 n_le2 n_le3
open Go.RowKit
attribute [local go_sem] Ext.cell Ext.frozen
end Go.Proofs.Ytokklkmibjpjnaa
namespace Go.Proofs.Ytokklkmibjpjnaa
set_option linter.unusedSimpArgs false
set_option linter.unusedVariables false
attribute [local go_sem] n_lt2 n_lt3 n_lt4 n_le2 n_le3
open Go.RowKit
attribute [local go_sem] Ext.cell Ext.frozen
end Go.Proofs.Ytokklkmibjpjnaa
namespace Go.Proofs.Ytokklkmibjpjnaa
set_option linter.unusedSimpArgs false
set_option linter.unusedVariables false
attribute [local go_sem] n_lt2 n_lt3 n_lt4 n_le2 n_le3
open Go.RowKit
attribute [local go_sem] Ext.cell Ext.frozen
end Go.Proofs.Ytokklkmibjpjnaa
namespace Go.Proofs.Ytokklkmibjpjnaa
set_option linter.unusedSimpArgs false
set_option linter.unusedVariables false
attribute [local go_sem] n_lt2 n_lt3 n_lt4 n_le2 n_le3
open Go.RowKit
attribute [local go_sem] Ext.cell Ext.frozen
end Go.Proofs.Ytokklkmibjpjnaa
namespace Go.Proofs.Ytokklkmibjpjnaa
set_option linter.unusedSimpArgs false
set_option linter.unusedVariables false
attribute [local go_sem] n_lt2 n_lt3 n_lt4 n_le2 n_le3
open Go.RowKit
attribute [local go_sem] Ext.cell Ext.frozen
theorem effE_len {l0 l1 l2 : Int} {pl : List Pr} {ql : List Jb} {ex et ec es ek ea eb eg eh : Int} (hp : pl.length ≤ 1000) (hq : ql.length ≤ 1000) : (effE l0 l1 l2 pl ql ex et ec es ek ea eb eg eh).1.p.length ≤ 1000 ∧ (effE l0 l1 l2 pl ql ex et ec es ek ea eb eg eh).1.q.length ≤ 1000 := by
  have h1 := putR_len pl ea eb
  have h2 := cutR_len pl ea
  have h3 := addR_len ql ⟨ea, eb, eg, eh, 0⟩
  have h4 := firedR_len ql (jobAtV ql ea).1.i ex
  have h5 := putR_len pl (jobAtV ql ea).1.k (jobAtV ql ea).1.v
  unfold effE
  repeat' split
  all_goals (simp only; omega)
/-- What Applied hands back. -/
def appR (i0 t0 l0 l1 l2 : Int) (pl : List Pr) (ql : List Jb) (ex et ec es ek ea eb eg eh : Int) : (Int × Int × Ef) × Bool :=
  if stateB i0 t0 l0 l1 l2 pl ql = true then (if nextB i0 t0 ex et ec es ek ea eb eg eh = true then ((ex, et, appE l0 l1 l2 pl ql ex et ec es ek ea eb eg eh), true) else ((i0, t0, ⟨pl, ql, l0, l1, l2⟩), false)) else ((0, 0, ⟨[], [], 0, 0, 0⟩), false)
def AppIs (i0 t0 l0 l1 l2 : Int) (pl : List Pr) (ql : List Jb) (ex et ec es ek ea eb eg eh : Int) (ri rt rh re ru : Int) (rp : List Pr) (rq : List Jb) (rn rm : Nat) (rb : Bool) : Prop := appR i0 t0 l0 l1 l2 pl ql ex et ec es ek ea eb eg eh = ((ri, rt, ⟨rp, rq, rh, re, ru⟩), rb) ∧ rp.length = rn ∧ rq.length = rm
theorem nextInB_both {i0 t0 l0 l1 l2 : Int} {pl : List Pr} {ql : List Jb} {ex et ec es ek ea eb eg eh : Int} (h : nextInB i0 t0 l0 l1 l2 pl ql ex et ec es ek ea eb eg eh = true) : stateB i0 t0 l0 l1 l2 pl ql = true ∧ nextB i0 t0 ex et ec es ek ea eb eg eh = true := by
  unfold nextInB at h
  simpa only [Bool.and_eq_true] using h
theorem nextB_kind {i0 t0 ex et ec es ek ea eb eg eh : Int} (h : nextB i0 t0 ex et ec es ek ea eb eg eh = true) : ek = 1 ∨ ek = 2 ∨ ek = 3 ∨ ek = 4 ∨ ek = 5 := opB_kind (nextB_parts h).2.2.2.2.1
end Go.Proofs.Ytokklkmibjpjnaa
namespace Go.Proofs.Ytokklkmibjpjnaa
set_option linter.unusedSimpArgs false
set_option linter.unusedVariables false
attribute [local go_sem] n_lt2 n_lt3 n_lt4 n_le2 n_le3
open Go.RowKit
attribute [local go_sem] Ext.cell Ext.frozen
theorem l17Job_any (k a b c d : Int) (w : World) :
    Calls Try.prog 48 #[.agg #[.int .i64 k, .int .i64 a, .int .i64 b, .int .i64 c, .int .i64 d]] w fun e' w' => e' = .returned (.agg #[.int .i64 a, .int .i64 b, .int .i64 c, .int .i64 d, .int .i64 0]) ∧ Below w.heap.size w w' := by
  go_enter Try.func48, Try.ntmps48
  go_wp21
  refine bodyPost_ret (v := .agg #[.int .i64 a, .int .i64 b, .int .i64 c, .int .i64 d, .int .i64 0]) (by simp [results, Try.results48, go_sem, *]) rfl ?_
  exact ⟨rfl, by (repeat' (first | (with_reducible exact Below.refl _ _) | (with_reducible assumption) | (with_reducible refine Below.alloc ?_ ?_ _) | (with_reducible refine Below.drew ?_) | (with_reducible refine Below.setCell ?_ ?_ _) | (with_reducible refine bstep (by assumption) ?_ ?_) | (with_reducible exact Nat.le_refl _) | omega | (simp [*]; done) | (simp [*]; omega)))⟩
theorem effE_1 (l0 l1 l2 : Int) (pl : List Pr) (ql : List Jb) (ex et ec es ea eb eg eh : Int) : effE l0 l1 l2 pl ql ex et ec es 1 ea eb eg eh = (⟨(putR pl ea eb).1, ql, l0, l1, l2⟩, (putR pl ea eb).2) := by unfold effE; rw [if_pos rfl]
theorem effE_2 (l0 l1 l2 : Int) (pl : List Pr) (ql : List Jb) (ex et ec es ea eb eg eh : Int) : effE l0 l1 l2 pl ql ex et ec es 2 ea eb eg eh = (⟨(cutR pl ea).1, ql, l0, l1, l2⟩, (cutR pl ea).2) := by unfold effE; rw [if_neg (by decide), if_pos rfl]
theorem effE_3 (l0 l1 l2 : Int) (pl : List Pr) (ql : List Jb) (ex et ec es ea eb eg eh : Int) : effE l0 l1 l2 pl ql ex et ec es 3 ea eb eg eh = (⟨pl, (addR ql ⟨ea, eb, eg, eh, 0⟩).1, l0, l1, l2⟩, (addR ql ⟨ea, eb, eg, eh, 0⟩).2) := by unfold effE; rw [if_neg (by decide), if_neg (by decide), if_pos rfl]
theorem effE_4y {l0 l1 l2 : Int} {pl : List Pr} {ql : List Jb} {ex et ec es ea eb eg eh : Int} (h : firesB l0 l1 l2 ql et ec 4 ea eb = true) : effE l0 l1 l2 pl ql ex et ec es 4 ea eb eg eh = (⟨(putR pl (jobAtV ql ea).1.k (jobAtV ql ea).1.v).1, (firedR ql (jobAtV ql ea).1.i ex).1, l0, l1, l2⟩, true) := by unfold effE; rw [if_neg (by decide), if_neg (by decide), if_neg (by decide), if_pos rfl, if_pos h]
theorem effE_4n {l0 l1 l2 : Int} {pl : List Pr} {ql : List Jb} {ex et ec es ea eb eg eh : Int} (h : firesB l0 l1 l2 ql et ec 4 ea eb = false) : effE l0 l1 l2 pl ql ex et ec es 4 ea eb eg eh = (⟨pl, ql, l0, l1, l2⟩, false) := by unfold effE; rw [if_neg (by decide), if_neg (by decide), if_neg (by decide), if_pos rfl, if_neg (by rw [h]; decide)]
theorem effE_5 (l0 l1 l2 : Int) (pl : List Pr) (ql : List Jb) (ex et ec es ea eb eg eh : Int) : effE l0 l1 l2 pl ql ex et ec es 5 ea eb eg eh = (⟨pl, ql, (grantL l0 l1 l2 ec et ea).1.1, (grantL l0 l1 l2 ec et ea).1.2.1, (grantL l0 l1 l2 ec et ea).1.2.2⟩, (grantL l0 l1 l2 ec et ea).2) := by unfold effE; rw [if_neg (by decide), if_neg (by decide), if_neg (by decide), if_neg (by decide)]
theorem firesIn_at {i0 t0 l0 l1 l2 : Int} {pl : List Pr} {ql : List Jb} {ex et ec es ek ea eb eg eh : Int} (h : nextInB i0 t0 l0 l1 l2 pl ql ex et ec es ek ea eb eg eh = true) : firesInB i0 t0 l0 l1 l2 pl ql ex et ec es ek ea eb eg eh = firesB l0 l1 l2 ql et ec ek ea eb := by
  unfold firesInB
  rw [h]
  rfl
set_option maxRecDepth 100000 in
set_option maxHeartbeats 2000000 in
theorem specEff1 (A : Option Addr) (n c : Nat) (B : Option Addr) (m d : Nat) (i0 t0 l0 l1 l2 : Int) (pl : List Pr) (ql : List Jb) (ex et ec es ea eb eg eh : Int) (w : World) (hP : Sl w 2 A n (PR pl)) (hQ : Sl w 5 B m (JB ql)) (hl : pl.length = n) (hr : ql.length = m) (hn : n ≤ maxLen) (hm : m ≤ maxLen) (hA : A = none → n = 0 ∧ c = 0) (hB : B = none → m = 0 ∧ d = 0) (hN : Hid (nextInB i0 t0 l0 l1 l2 pl ql ex et ec es 1 ea eb eg eh = true)) (ok : Bool) (hok : ok = true) (x : Int) (hx : (if ok = true then 1 else 0) = x) :
    Calls Try.prog 44 #[.agg #[.int .i64 i0, .int .i64 t0, .slice A n c, .slice B m d, .int .i64 l0, .int .i64 l1, .int .i64 l2], .agg #[.int .i64 ex, .int .i64 et, .int .i64 ec, .int .i64 es, .int .i64 1, .int .i64 ea, .int .i64 eb, .int .i64 eg, .int .i64 eh]] w fun e' w' => e' = .returned (.int .i64 x) ∧ Below w.heap.size w w' := by
  have HP := Lib.hid hP
  have HQ := Lib.hid hQ
  have HA := Lib.hid hA
  have HB := Lib.hid hB
  have hL := Lib.hid hl
  have hR := Lib.hid hr
  clear hP hQ hA hB hl hr
  go_enter Try.func44, Try.ntmps44
  go_wp2_with fail
  refine calls_named ?_
  rintro v0 hv0
  have f0 : Below w.heap.size w v0 := by rw [hv0]; (repeat' (first | (with_reducible exact Below.refl _ _) | (with_reducible assumption) | (with_reducible refine Below.alloc ?_ ?_ _) | (with_reducible refine Below.drew ?_) | (with_reducible refine Below.setCell ?_ ?_ _) | (with_reducible refine bstep (by assumption) ?_ ?_) | (with_reducible exact Nat.le_refl _) | omega | (simp [*]; done) | (simp [*]; omega)))
  have z0 : w.heap.size + 2 ≤ v0.heap.size := by rw [hv0]; simp [size_set]
  have HP_0 := Lib.hid (HP.out.below f0)
  have HP_lt := Lib.hid (fun hn => HP.out.lt hn)
  have HQ_0 := Lib.hid (HQ.out.below f0)
  have HQ_lt := Lib.hid (fun hn => HQ.out.lt hn)
  have Ha_0 : Hid (Blk v0 w.heap.size 29 #[.int .i64 i0, .int .i64 t0, .slice A n c, .slice B m d, .int .i64 l0, .int .i64 l1, .int .i64 l2]) := by rw [hv0]; exact (Blk.new_at _ _ _ _ (by simp)).alloc _
  have Hb_0 : Hid (Blk v0 (w.heap.size + 1) 49 #[.int .i64 ex, .int .i64 et, .int .i64 ec, .int .i64 es, .int .i64 1, .int .i64 ea, .int .i64 eb, .int .i64 eg, .int .i64 eh]) := by rw [hv0]; exact Blk.new_at _ _ _ _ (by simp)
  clear hv0
  generalize hg1 : w.heap.size + 1 = g1 at *
  have lg1 : w.heap.size < g1 := by omega
  have lgz : g1 < v0.heap.size := by omega
  have nq1x0 : ¬ g1 = w.heap.size := by omega
  have nq0x1 : ¬ w.heap.size = g1 := by omega
  clear hg1
  have lt_a := Ha_0.out.lt
  obtain ⟨r_a0, r_a1, r_a2, r_a3, r_a4, r_a5, r_a6⟩ := bc7 Ha_0.out
  have lt_b := Hb_0.out.lt
  obtain ⟨r_b0, r_b1, r_b2, r_b3, r_b4, r_b5, r_b6, r_b7, r_b8⟩ := bc9 Hb_0.out
  have cc := specNextIn_any A n c B m d i0 t0 l0 l1 l2 pl ql ex et ec es 1 ea eb eg eh v0 HP_0.out HQ_0.out hL.out hR.out hn hm
  rw [hN.out] at cc
  refine (cc).mono ?_
  rintro e v1 ⟨rfl, b1⟩
  have f1 := bthen f0 b1
  have z1 := b1.size
  have HP_1 := Lib.hid (HP_0.out.below b1)
  have HQ_1 := Lib.hid (HQ_0.out.below b1)
  have Ha_1 := Lib.hid (Ha_0.out.below b1)
  have Hb_1 := Lib.hid (Hb_0.out.below b1)
  clear lt_a r_a0 r_a1 r_a2 r_a3 r_a4 r_a5 r_a6 lt_b r_b0 r_b1 r_b2 r_b3 r_b4 r_b5 r_b6 r_b7 r_b8
  clear HP_0 HQ_0 Ha_0 Hb_0
  clear cc
  have lt_a := Ha_1.out.lt
  obtain ⟨r_a0, r_a1, r_a2, r_a3, r_a4, r_a5, r_a6⟩ := bc7 Ha_1.out
  have lt_b := Hb_1.out.lt
  obtain ⟨r_b0, r_b1, r_b2, r_b3, r_b4, r_b5, r_b6, r_b7, r_b8⟩ := bc9 Hb_1.out
  subst hok
  rw [if_pos rfl] at hx
  subst hx
  go_wp21
  go_ret
  exact ⟨rfl, f1⟩
set_option maxRecDepth 100000 in
set_option maxHeartbeats 2000000 in
theorem specEff2 (A : Option Addr) (n c : Nat) (B : Option Addr) (m d : Nat) (i0 t0 l0 l1 l2 : Int) (pl : List Pr) (ql : List Jb) (ex et ec es ea eb eg eh : Int) (w : World) (hP : Sl w 2 A n (PR pl)) (hQ : Sl w 5 B m (JB ql)) (hl : pl.length = n) (hr : ql.length = m) (hn : n ≤ maxLen) (hm : m ≤ maxLen) (hA : A = none → n = 0 ∧ c = 0) (hB : B = none → m = 0 ∧ d = 0) (hN : Hid (nextInB i0 t0 l0 l1 l2 pl ql ex et ec es 2 ea eb eg eh = true)) (ok : Bool) (vv : Int) (hv : Hid (valueAtB pl ea = (vv, ok))) (x : Int) (hx : (if ok = true then 2 else 0) = x) :
    Calls Try.prog 44 #[.agg #[.int .i64 i0, .int .i64 t0, .slice A n c, .slice B m d, .int .i64 l0, .int .i64 l1, .int .i64 l2], .agg #[.int .i64 ex, .int .i64 et, .int .i64 ec, .int .i64 es, .int .i64 2, .int .i64 ea, .int .i64 eb, .int .i64 eg, .int .i64 eh]] w fun e' w' => e' = .returned (.int .i64 x) ∧ Below w.heap.size w w' := by
  have HP := Lib.hid hP
  have HQ := Lib.hid hQ
  have HA := Lib.hid hA
  have HB := Lib.hid hB
  have hL := Lib.hid hl
  have hR := Lib.hid hr
  clear hP hQ hA hB hl hr
  go_enter Try.func44, Try.ntmps44
  go_wp2_with fail
  refine calls_named ?_
  rintro v0 hv0
  have f0 : Below w.heap.size w v0 := by rw [hv0]; (repeat' (first | (with_reducible exact Below.refl _ _) | (with_reducible assumption) | (with_reducible refine Below.alloc ?_ ?_ _) | (with_reducible refine Below.drew ?_) | (with_reducible refine Below.setCell ?_ ?_ _) | (with_reducible refine bstep (by assumption) ?_ ?_) | (with_reducible exact Nat.le_refl _) | omega | (simp [*]; done) | (simp [*]; omega)))
  have z0 : w.heap.size + 2 ≤ v0.heap.size := by rw [hv0]; simp [size_set]
  have HP_0 := Lib.hid (HP.out.below f0)
  have HP_lt := Lib.hid (fun hn => HP.out.lt hn)
  have HQ_0 := Lib.hid (HQ.out.below f0)
  have HQ_lt := Lib.hid (fun hn => HQ.out.lt hn)
  have Ha_0 : Hid (Blk v0 w.heap.size 29 #[.int .i64 i0, .int .i64 t0, .slice A n c, .slice B m d, .int .i64 l0, .int .i64 l1, .int .i64 l2]) := by rw [hv0]; exact (Blk.new_at _ _ _ _ (by simp)).alloc _
  have Hb_0 : Hid (Blk v0 (w.heap.size + 1) 49 #[.int .i64 ex, .int .i64 et, .int .i64 ec, .int .i64 es, .int .i64 2, .int .i64 ea, .int .i64 eb, .int .i64 eg, .int .i64 eh]) := by rw [hv0]; exact Blk.new_at _ _ _ _ (by simp)
  clear hv0
  generalize hg1 : w.heap.size + 1 = g1 at *
  have lg1 : w.heap.size < g1 := by omega
  have lgz : g1 < v0.heap.size := by omega
  have nq1x0 : ¬ g1 = w.heap.size := by omega
  have nq0x1 : ¬ w.heap.size = g1 := by omega
  clear hg1
  have lt_a := Ha_0.out.lt
  obtain ⟨r_a0, r_a1, r_a2, r_a3, r_a4, r_a5, r_a6⟩ := bc7 Ha_0.out
  have lt_b := Hb_0.out.lt
  obtain ⟨r_b0, r_b1, r_b2, r_b3, r_b4, r_b5, r_b6, r_b7, r_b8⟩ := bc9 Hb_0.out
  have cc := specNextIn_any A n c B m d i0 t0 l0 l1 l2 pl ql ex et ec es 2 ea eb eg eh v0 HP_0.out HQ_0.out hL.out hR.out hn hm
  rw [hN.out] at cc
  refine (cc).mono ?_
  rintro e v1 ⟨rfl, b1⟩
  have f1 := bthen f0 b1
  have z1 := b1.size
  have HP_1 := Lib.hid (HP_0.out.below b1)
  have HQ_1 := Lib.hid (HQ_0.out.below b1)
  have Ha_1 := Lib.hid (Ha_0.out.below b1)
  have Hb_1 := Lib.hid (Hb_0.out.below b1)
  clear lt_a r_a0 r_a1 r_a2 r_a3 r_a4 r_a5 r_a6 lt_b r_b0 r_b1 r_b2 r_b3 r_b4 r_b5 r_b6 r_b7 r_b8
  clear HP_0 HQ_0 Ha_0 Hb_0
  clear cc
  have lt_a := Ha_1.out.lt
  obtain ⟨r_a0, r_a1, r_a2, r_a3, r_a4, r_a5, r_a6⟩ := bc7 Ha_1.out
  have lt_b := Hb_1.out.lt
  obtain ⟨r_b0, r_b1, r_b2, r_b3, r_b4, r_b5, r_b6, r_b7, r_b8⟩ := bc9 Hb_1.out
  have cc := specValueAt_any A n c pl ea v1 HP_1.out hL.out hn
  rw [hv.out] at cc
  cases ok with
  | true =>
    rw [if_pos rfl] at hx
    subst hx
    
    go_wp2_with fail
    refine (cc).mono ?_
    rintro e v2 ⟨rfl, b2⟩
    have f2 := bthen f1 b2
    have z2 := b2.size
    have HP_2 := Lib.hid (HP_1.out.below b2)
    have HQ_2 := Lib.hid (HQ_1.out.below b2)
    have Ha_2 := Lib.hid (Ha_1.out.below b2)
    have Hb_2 := Lib.hid (Hb_1.out.below b2)
    clear lt_a r_a0 r_a1 r_a2 r_a3 r_a4 r_a5 r_a6 lt_b r_b0 r_b1 r_b2 r_b3 r_b4 r_b5 r_b6 r_b7 r_b8
    clear HP_1 HQ_1 Ha_1 Hb_1
    clear cc
    have lt_a := Ha_2.out.lt
    obtain ⟨r_a0, r_a1, r_a2, r_a3, r_a4, r_a5, r_a6⟩ := bc7 Ha_2.out
    have lt_b := Hb_2.out.lt
    obtain ⟨r_b0, r_b1, r_b2, r_b3, r_b4, r_b5, r_b6, r_b7, r_b8⟩ := bc9 Hb_2.out
    go_wp21
    go_ret
    exact ⟨rfl, f2⟩
  | false =>
    rw [if_neg (by decide)] at hx
    subst hx
    
    go_wp2_with fail
    refine (cc).mono ?_
    rintro e v2 ⟨rfl, b2⟩
    have f2 := bthen f1 b2
    have z2 := b2.size
    have HP_2 := Lib.hid (HP_1.out.below b2)
    have HQ_2 := Lib.hid (HQ_1.out.below b2)
    have Ha_2 := Lib.hid (Ha_1.out.below b2)
    have Hb_2 := Lib.hid (Hb_1.out.below b2)
    clear lt_a r_a0 r_a1 r_a2 r_a3 r_a4 r_a5 r_a6 lt_b r_b0 r_b1 r_b2 r_b3 r_b4 r_b5 r_b6 r_b7 r_b8
    clear HP_1 HQ_1 Ha_1 Hb_1
    clear cc
    have lt_a := Ha_2.out.lt
    obtain ⟨r_a0, r_a1, r_a2, r_a3, r_a4, r_a5, r_a6⟩ := bc7 Ha_2.out
    have lt_b := Hb_2.out.lt
    obtain ⟨r_b0, r_b1, r_b2, r_b3, r_b4, r_b5, r_b6, r_b7, r_b8⟩ := bc9 Hb_2.out
    go_wp21
    go_ret
    exact ⟨rfl, f2⟩
set_option maxRecDepth 100000 in
set_option maxHeartbeats 2000000 in
theorem specEff3 (A : Option Addr) (n c : Nat) (B : Option Addr) (m d : Nat) (i0 t0 l0 l1 l2 : Int) (pl : List Pr) (ql : List Jb) (ex et ec es ea eb eg eh : Int) (w : World) (hP : Sl w 2 A n (PR pl)) (hQ : Sl w 5 B m (JB ql)) (hl : pl.length = n) (hr : ql.length = m) (hn : n ≤ maxLen) (hm : m ≤ maxLen) (hA : A = none → n = 0 ∧ c = 0) (hB : B = none → m = 0 ∧ d = 0) (hN : Hid (nextInB i0 t0 l0 l1 l2 pl ql ex et ec es 3 ea eb eg eh = true)) (ok : Bool) (q2 : List Jb) (m2 : Nat) (hv : Hid (addR ql ⟨ea, eb, eg, eh, 0⟩ = (q2, ok))) (hm2 : Hid (q2.length = m2)) (x : Int) (hx : (if ok = true then 3 else 0) = x) :
    Calls Try.prog 44 #[.agg #[.int .i64 i0, .int .i64 t0, .slice A n c, .slice B m d, .int .i64 l0, .int .i64 l1, .int .i64 l2], .agg #[.int .i64 ex, .int .i64 et, .int .i64 ec, .int .i64 es, .int .i64 3, .int .i64 ea, .int .i64 eb, .int .i64 eg, .int .i64 eh]] w fun e' w' => e' = .returned (.int .i64 x) ∧ Below w.heap.size w w' := by
  have HP := Lib.hid hP
  have HQ := Lib.hid hQ
  have HA := Lib.hid hA
  have HB := Lib.hid hB
  have hL := Lib.hid hl
  have hR := Lib.hid hr
  clear hP hQ hA hB hl hr
  go_enter Try.func44, Try.ntmps44
  go_wp2_with fail
  refine calls_named ?_
  rintro v0 hv0
  have f0 : Below w.heap.size w v0 := by rw [hv0]; (repeat' (first | (with_reducible exact Below.refl _ _) | (with_reducible assumption) | (with_reducible refine Below.alloc ?_ ?_ _) | (with_reducible refine Below.drew ?_) | (with_reducible refine Below.setCell ?_ ?_ _) | (with_reducible refine bstep (by assumption) ?_ ?_) | (with_reducible exact Nat.le_refl _) | omega | (simp [*]; done) | (simp [*]; omega)))
  have z0 : w.heap.size + 2 ≤ v0.heap.size := by rw [hv0]; simp [size_set]
  have HP_0 := Lib.hid (HP.out.below f0)
  have HP_lt := Lib.hid (fun hn => HP.out.lt hn)
  have HQ_0 := Lib.hid (HQ.out.below f0)
  have HQ_lt := Lib.hid (fun hn => HQ.out.lt hn)
  have Ha_0 : Hid (Blk v0 w.heap.size 29 #[.int .i64 i0, .int .i64 t0, .slice A n c, .slice B m d, .int .i64 l0, .int .i64 l1, .int .i64 l2]) := by rw [hv0]; exact (Blk.new_at _ _ _ _ (by simp)).alloc _
  have Hb_0 : Hid (Blk v0 (w.heap.size + 1) 49 #[.int .i64 ex, .int .i64 et, .int .i64 ec, .int .i64 es, .int .i64 3, .int .i64 ea, .int .i64 eb, .int .i64 eg, .int .i64 eh]) := by rw [hv0]; exact Blk.new_at _ _ _ _ (by simp)
  clear hv0
  generalize hg1 : w.heap.size + 1 = g1 at *
  have lg1 : w.heap.size < g1 := by omega
  have lgz : g1 < v0.heap.size := by omega
  have nq1x0 : ¬ g1 = w.heap.size := by omega
  have nq0x1 : ¬ w.heap.size = g1 := by omega
  clear hg1
  have lt_a := Ha_0.out.lt
  obtain ⟨r_a0, r_a1, r_a2, r_a3, r_a4, r_a5, r_a6⟩ := bc7 Ha_0.out
  have lt_b := Hb_0.out.lt
  obtain ⟨r_b0, r_b1, r_b2, r_b3, r_b4, r_b5, r_b6, r_b7, r_b8⟩ := bc9 Hb_0.out
  have cc := specNextIn_any A n c B m d i0 t0 l0 l1 l2 pl ql ex et ec es 3 ea eb eg eh v0 HP_0.out HQ_0.out hL.out hR.out hn hm
  rw [hN.out] at cc
  refine (cc).mono ?_
  rintro e v1 ⟨rfl, b1⟩
  have f1 := bthen f0 b1
  have z1 := b1.size
  have HP_1 := Lib.hid (HP_0.out.below b1)
  have HQ_1 := Lib.hid (HQ_0.out.below b1)
  have Ha_1 := Lib.hid (Ha_0.out.below b1)
  have Hb_1 := Lib.hid (Hb_0.out.below b1)
  clear lt_a r_a0 r_a1 r_a2 r_a3 r_a4 r_a5 r_a6 lt_b r_b0 r_b1 r_b2 r_b3 r_b4 r_b5 r_b6 r_b7 r_b8
  clear HP_0 HQ_0 Ha_0 Hb_0
  clear cc
  have lt_a := Ha_1.out.lt
  obtain ⟨r_a0, r_a1, r_a2, r_a3, r_a4, r_a5, r_a6⟩ := bc7 Ha_1.out
  have lt_b := Hb_1.out.lt
  obtain ⟨r_b0, r_b1, r_b2, r_b3, r_b4, r_b5, r_b6, r_b7, r_b8⟩ := bc9 Hb_1.out
  have cc : ∀ u1, Below v1.heap.size v1 u1 → Calls Try.prog 47 #[.slice B m d, .agg #[.int .i64 ea, .int .i64 eb, .int .i64 eg, .int .i64 eh, .int .i64 0]] u1 (fun e u2 => ∃ A2 c2, e = .returned (.tuple #[.slice A2 m2 c2, .bool ok]) ∧ Below u1.heap.size u1 u2) := fun u1 hb => by
    have c1 := addedRS_any B m d ql ea eb eg eh 0 u1 (HQ_1.out.below hb) hR.out hm HB.out
    rw [hv.out] at c1
    refine c1.mono ?_
    rintro e u2 ⟨A2, c2, rfl, -, b2⟩
    have := hm2.out
    subst this
    exact ⟨A2, c2, rfl, b2⟩
  clear hv hm2
  cases ok with
  | true =>
    rw [if_pos rfl] at hx
    subst hx
    go_upto_region 14 with fail
    have hS0 : ∀ b o, b < v1.heap.size → v1.cell? ⟨b, o, none⟩ = v1.cell? ⟨b, o, none⟩ := fun b o hb => rfl
    go_region_held_law (fun w' => ∀ b o, b < v1.heap.size → w'.cell? ⟨b, o, none⟩ = v1.cell? ⟨b, o, none⟩) (repeat' (first | with_reducible assumption | with_reducible exact hS0 | with_reducible refine hl_drew ?_)) (first | (go_at_call 48; refine (l17Job_any 3 ea eb eg eh _).mono ?_; rintro e u1 ⟨rfl, b1⟩; have E1 : Below v1.heap.size v1 u1 := (by first | with_reducible exact b1 | with_reducible exact tb_dr b1); have hS1 : ∀ b o, b < v1.heap.size → u1.cell? ⟨b, o, none⟩ = v1.cell? ⟨b, o, none⟩ := fun b o hb => E1.cell (p := ⟨b, o, none⟩) hb) | (go_at_call 47; refine (cc _ E1).mono ?_; rintro e u2 ⟨A2, c2, rfl, b2⟩; have E2 := bthen E1 b2; have hS2 : ∀ b o, b < v1.heap.size → u2.cell? ⟨b, o, none⟩ = v1.cell? ⟨b, o, none⟩ := fun b o hb => E2.cell (p := ⟨b, o, none⟩) hb))
    all_goals
      go_wp21
      go_ret
      exact ⟨rfl, bthen f1 E2⟩
  | false =>
    rw [if_neg (by decide)] at hx
    subst hx
    go_upto_region 14 with fail
    have hS0 : ∀ b o, b < v1.heap.size → v1.cell? ⟨b, o, none⟩ = v1.cell? ⟨b, o, none⟩ := fun b o hb => rfl
    go_region_held_law (fun w' => ∀ b o, b < v1.heap.size → w'.cell? ⟨b, o, none⟩ = v1.cell? ⟨b, o, none⟩) (repeat' (first | with_reducible assumption | with_reducible exact hS0 | with_reducible refine hl_drew ?_)) (first | (go_at_call 48; refine (l17Job_any 3 ea eb eg eh _).mono ?_; rintro e u1 ⟨rfl, b1⟩; have E1 : Below v1.heap.size v1 u1 := (by first | with_reducible exact b1 | with_reducible exact tb_dr b1); have hS1 : ∀ b o, b < v1.heap.size → u1.cell? ⟨b, o, none⟩ = v1.cell? ⟨b, o, none⟩ := fun b o hb => E1.cell (p := ⟨b, o, none⟩) hb) | (go_at_call 47; refine (cc _ E1).mono ?_; rintro e u2 ⟨A2, c2, rfl, b2⟩; have E2 := bthen E1 b2; have hS2 : ∀ b o, b < v1.heap.size → u2.cell? ⟨b, o, none⟩ = v1.cell? ⟨b, o, none⟩ := fun b o hb => E2.cell (p := ⟨b, o, none⟩) hb))
    all_goals
      go_wp21
      go_ret
      exact ⟨rfl, bthen f1 E2⟩
set_option maxRecDepth 100000 in
set_option maxHeartbeats 2000000 in
theorem specEff4 (A : Option Addr) (n c : Nat) (B : Option Addr) (m d : Nat) (i0 t0 l0 l1 l2 : Int) (pl : List Pr) (ql : List Jb) (ex et ec es ea eb eg eh : Int) (w : World) (hP : Sl w 2 A n (PR pl)) (hQ : Sl w 5 B m (JB ql)) (hl : pl.length = n) (hr : ql.length = m) (hn : n ≤ maxLen) (hm : m ≤ maxLen) (hA : A = none → n = 0 ∧ c = 0) (hB : B = none → m = 0 ∧ d = 0) (hN : Hid (nextInB i0 t0 l0 l1 l2 pl ql ex et ec es 4 ea eb eg eh = true)) (ok : Bool) (hv : Hid (firesInB i0 t0 l0 l1 l2 pl ql ex et ec es 4 ea eb eg eh = ok)) (x : Int) (hx : (if ok = true then 4 else 0) = x) :
    Calls Try.prog 44 #[.agg #[.int .i64 i0, .int .i64 t0, .slice A n c, .slice B m d, .int .i64 l0, .int .i64 l1, .int .i64 l2], .agg #[.int .i64 ex, .int .i64 et, .int .i64 ec, .int .i64 es, .int .i64 4, .int .i64 ea, .int .i64 eb, .int .i64 eg, .int .i64 eh]] w fun e' w' => e' = .returned (.int .i64 x) ∧ Below w.heap.size w w' := by
  have HP := Lib.hid hP
  have HQ := Lib.hid hQ
  have HA := Lib.hid hA
  have HB := Lib.hid hB
  have hL := Lib.hid hl
  have hR := Lib.hid hr
  clear hP hQ hA hB hl hr
  go_enter Try.func44, Try.ntmps44
  go_wp2_with fail
  refine calls_named ?_
  rintro v0 hv0
  have f0 : Below w.heap.size w v0 := by rw [hv0]; (repeat' (first | (with_reducible exact Below.refl _ _) | (with_reducible assumption) | (with_reducible refine Below.alloc ?_ ?_ _) | (with_reducible refine Below.drew ?_) | (with_reducible refine Below.setCell ?_ ?_ _) | (with_reducible refine bstep (by assumption) ?_ ?_) | (with_reducible exact Nat.le_refl _) | omega | (simp [*]; done) | (simp [*]; omega)))
  have z0 : w.heap.size + 2 ≤ v0.heap.size := by rw [hv0]; simp [size_set]
  have HP_0 := Lib.hid (HP.out.below f0)
  have HP_lt := Lib.hid (fun hn => HP.out.lt hn)
  have HQ_0 := Lib.hid (HQ.out.below f0)
  have HQ_lt := Lib.hid (fun hn => HQ.out.lt hn)
  have Ha_0 : Hid (Blk v0 w.heap.size 29 #[.int .i64 i0, .int .i64 t0, .slice A n c, .slice B m d, .int .i64 l0, .int .i64 l1, .int .i64 l2]) := by rw [hv0]; exact (Blk.new_at _ _ _ _ (by simp)).alloc _
  have Hb_0 : Hid (Blk v0 (w.heap.size + 1) 49 #[.int .i64 ex, .int .i64 et, .int .i64 ec, .int .i64 es, .int .i64 4, .int .i64 ea, .int .i64 eb, .int .i64 eg, .int .i64 eh]) := by rw [hv0]; exact Blk.new_at _ _ _ _ (by simp)
  clear hv0
  generalize hg1 : w.heap.size + 1 = g1 at *
  have lg1 : w.heap.size < g1 := by omega
  have lgz : g1 < v0.heap.size := by omega
  have nq1x0 : ¬ g1 = w.heap.size := by omega
  have nq0x1 : ¬ w.heap.size = g1 := by omega
  clear hg1
  have lt_a := Ha_0.out.lt
  obtain ⟨r_a0, r_a1, r_a2, r_a3, r_a4, r_a5, r_a6⟩ := bc7 Ha_0.out
  have lt_b := Hb_0.out.lt
  obtain ⟨r_b0, r_b1, r_b2, r_b3, r_b4, r_b5, r_b6, r_b7, r_b8⟩ := bc9 Hb_0.out
  have cc := specNextIn_any A n c B m d i0 t0 l0 l1 l2 pl ql ex et ec es 4 ea eb eg eh v0 HP_0.out HQ_0.out hL.out hR.out hn hm
  rw [hN.out] at cc
  refine (cc).mono ?_
  rintro e v1 ⟨rfl, b1⟩
  have f1 := bthen f0 b1
  have z1 := b1.size
  have HP_1 := Lib.hid (HP_0.out.below b1)
  have HQ_1 := Lib.hid (HQ_0.out.below b1)
  have Ha_1 := Lib.hid (Ha_0.out.below b1)
  have Hb_1 := Lib.hid (Hb_0.out.below b1)
  clear lt_a r_a0 r_a1 r_a2 r_a3 r_a4 r_a5 r_a6 lt_b r_b0 r_b1 r_b2 r_b3 r_b4 r_b5 r_b6 r_b7 r_b8
  clear HP_0 HQ_0 Ha_0 Hb_0
  clear cc
  have lt_a := Ha_1.out.lt
  obtain ⟨r_a0, r_a1, r_a2, r_a3, r_a4, r_a5, r_a6⟩ := bc7 Ha_1.out
  have lt_b := Hb_1.out.lt
  obtain ⟨r_b0, r_b1, r_b2, r_b3, r_b4, r_b5, r_b6, r_b7, r_b8⟩ := bc9 Hb_1.out
  have cc := specFiresIn_any A n c B m d i0 t0 l0 l1 l2 pl ql ex et ec es 4 ea eb eg eh v1 HP_1.out HQ_1.out hL.out hR.out hn hm
  rw [hv.out] at cc
  cases ok with
  | true =>
    rw [if_pos rfl] at hx
    subst hx
    
    go_wp2_with fail
    refine (cc).mono ?_
    rintro e v2 ⟨rfl, b2⟩
    have f2 := bthen f1 b2
    have z2 := b2.size
    have HP_2 := Lib.hid (HP_1.out.below b2)
    have HQ_2 := Lib.hid (HQ_1.out.below b2)
    have Ha_2 := Lib.hid (Ha_1.out.below b2)
    have Hb_2 := Lib.hid (Hb_1.out.below b2)
    clear lt_a r_a0 r_a1 r_a2 r_a3 r_a4 r_a5 r_a6 lt_b r_b0 r_b1 r_b2 r_b3 r_b4 r_b5 r_b6 r_b7 r_b8
    clear HP_1 HQ_1 Ha_1 Hb_1
    clear cc
    have lt_a := Ha_2.out.lt
    obtain ⟨r_a0, r_a1, r_a2, r_a3, r_a4, r_a5, r_a6⟩ := bc7 Ha_2.out
    have lt_b := Hb_2.out.lt
    obtain ⟨r_b0, r_b1, r_b2, r_b3, r_b4, r_b5, r_b6, r_b7, r_b8⟩ := bc9 Hb_2.out
    go_wp21
    go_ret
    exact ⟨rfl, f2⟩
  | false =>
    rw [if_neg (by decide)] at hx
    subst hx
    
    go_wp2_with fail
    refine (cc).mono ?_
    rintro e v2 ⟨rfl, b2⟩
    have f2 := bthen f1 b2
    have z2 := b2.size
    have HP_2 := Lib.hid (HP_1.out.below b2)
    have HQ_2 := Lib.hid (HQ_1.out.below b2)
    have Ha_2 := Lib.hid (Ha_1.out.below b2)
    have Hb_2 := Lib.hid (Hb_1.out.below b2)
    clear lt_a r_a0 r_a1 r_a2 r_a3 r_a4 r_a5 r_a6 lt_b r_b0 r_b1 r_b2 r_b3 r_b4 r_b5 r_b6 r_b7 r_b8
    clear HP_1 HQ_1 Ha_1 Hb_1
    clear cc
    have lt_a := Ha_2.out.lt
    obtain ⟨r_a0, r_a1, r_a2, r_a3, r_a4, r_a5, r_a6⟩ := bc7 Ha_2.out
    have lt_b := Hb_2.out.lt
    obtain ⟨r_b0, r_b1, r_b2, r_b3, r_b4, r_b5, r_b6, r_b7, r_b8⟩ := bc9 Hb_2.out
    go_wp21
    go_ret
    exact ⟨rfl, f2⟩
set_option maxRecDepth 100000 in
set_option maxHeartbeats 2000000 in
theorem specEff5 (A : Option Addr) (n c : Nat) (B : Option Addr) (m d : Nat) (i0 t0 l0 l1 l2 : Int) (pl : List Pr) (ql : List Jb) (ex et ec es ea eb eg eh : Int) (w : World) (hP : Sl w 2 A n (PR pl)) (hQ : Sl w 5 B m (JB ql)) (hl : pl.length = n) (hr : ql.length = m) (hn : n ≤ maxLen) (hm : m ≤ maxLen) (hA : A = none → n = 0 ∧ c = 0) (hB : B = none → m = 0 ∧ d = 0) (hN : Hid (nextInB i0 t0 l0 l1 l2 pl ql ex et ec es 5 ea eb eg eh = true)) (ok : Bool) (h2 e2 u2 : Int) (hv : Hid (grantL l0 l1 l2 ec et ea = ((h2, e2, u2), ok))) (x : Int) (hx : (if ok = true then 5 else 0) = x) :
    Calls Try.prog 44 #[.agg #[.int .i64 i0, .int .i64 t0, .slice A n c, .slice B m d, .int .i64 l0, .int .i64 l1, .int .i64 l2], .agg #[.int .i64 ex, .int .i64 et, .int .i64 ec, .int .i64 es, .int .i64 5, .int .i64 ea, .int .i64 eb, .int .i64 eg, .int .i64 eh]] w fun e' w' => e' = .returned (.int .i64 x) ∧ Below w.heap.size w w' := by
  have HP := Lib.hid hP
  have HQ := Lib.hid hQ
  have HA := Lib.hid hA
  have HB := Lib.hid hB
  have hL := Lib.hid hl
  have hR := Lib.hid hr
  clear hP hQ hA hB hl hr
  go_enter Try.func44, Try.ntmps44
  go_wp2_with fail
  refine calls_named ?_
  rintro v0 hv0
  have f0 : Below w.heap.size w v0 := by rw [hv0]; (repeat' (first | (with_reducible exact Below.refl _ _) | (with_reducible assumption) | (with_reducible refine Below.alloc ?_ ?_ _) | (with_reducible refine Below.drew ?_) | (with_reducible refine Below.setCell ?_ ?_ _) | (with_reducible refine bstep (by assumption) ?_ ?_) | (with_reducible exact Nat.le_refl _) | omega | (simp [*]; done) | (simp [*]; omega)))
  have z0 : w.heap.size + 2 ≤ v0.heap.size := by rw [hv0]; simp [size_set]
  have HP_0 := Lib.hid (HP.out.below f0)
  have HP_lt := Lib.hid (fun hn => HP.out.lt hn)
  have HQ_0 := Lib.hid (HQ.out.below f0)
  have HQ_lt := Lib.hid (fun hn => HQ.out.lt hn)
  have Ha_0 : Hid (Blk v0 w.heap.size 29 #[.int .i64 i0, .int .i64 t0, .slice A n c, .slice B m d, .int .i64 l0, .int .i64 l1, .int .i64 l2]) := by rw [hv0]; exact (Blk.new_at _ _ _ _ (by simp)).alloc _
  have Hb_0 : Hid (Blk v0 (w.heap.size + 1) 49 #[.int .i64 ex, .int .i64 et, .int .i64 ec, .int .i64 es, .int .i64 5, .int .i64 ea, .int .i64 eb, .int .i64 eg, .int .i64 eh]) := by rw [hv0]; exact Blk.new_at _ _ _ _ (by simp)
  clear hv0
  generalize hg1 : w.heap.size + 1 = g1 at *
  have lg1 : w.heap.size < g1 := by omega
  have lgz : g1 < v0.heap.size := by omega
  have nq1x0 : ¬ g1 = w.heap.size := by omega
  have nq0x1 : ¬ w.heap.size = g1 := by omega
  clear hg1
  have lt_a := Ha_0.out.lt
  obtain ⟨r_a0, r_a1, r_a2, r_a3, r_a4, r_a5, r_a6⟩ := bc7 Ha_0.out
  have lt_b := Hb_0.out.lt
  obtain ⟨r_b0, r_b1, r_b2, r_b3, r_b4, r_b5, r_b6, r_b7, r_b8⟩ := bc9 Hb_0.out
  have cc := specNextIn_any A n c B m d i0 t0 l0 l1 l2 pl ql ex et ec es 5 ea eb eg eh v0 HP_0.out HQ_0.out hL.out hR.out hn hm
  rw [hN.out] at cc
  refine (cc).mono ?_
  rintro e v1 ⟨rfl, b1⟩
  have f1 := bthen f0 b1
  have z1 := b1.size
  have HP_1 := Lib.hid (HP_0.out.below b1)
  have HQ_1 := Lib.hid (HQ_0.out.below b1)
  have Ha_1 := Lib.hid (Ha_0.out.below b1)
  have Hb_1 := Lib.hid (Hb_0.out.below b1)
  clear lt_a r_a0 r_a1 r_a2 r_a3 r_a4 r_a5 r_a6 lt_b r_b0 r_b1 r_b2 r_b3 r_b4 r_b5 r_b6 r_b7 r_b8
  clear HP_0 HQ_0 Ha_0 Hb_0
  clear cc
  have lt_a := Ha_1.out.lt
  obtain ⟨r_a0, r_a1, r_a2, r_a3, r_a4, r_a5, r_a6⟩ := bc7 Ha_1.out
  have lt_b := Hb_1.out.lt
  obtain ⟨r_b0, r_b1, r_b2, r_b3, r_b4, r_b5, r_b6, r_b7, r_b8⟩ := bc9 Hb_1.out
  have cc := specGranted_any l0 l1 l2 ec et ea v1
  rw [hv.out] at cc
  replace cc : Calls _ _ _ _ (fun e w1 => e = .returned (.tuple #[.agg #[.int .i64 h2, .int .i64 e2, .int .i64 u2], .bool ok]) ∧ Below v1.heap.size v1 w1) := cc
  cases ok with
  | true =>
    rw [if_pos rfl] at hx
    subst hx
    
    go_wp2_with fail
    refine (cc).mono ?_
    rintro e v2 ⟨rfl, b2⟩
    have f2 := bthen f1 b2
    have z2 := b2.size
    have HP_2 := Lib.hid (HP_1.out.below b2)
    have HQ_2 := Lib.hid (HQ_1.out.below b2)
    have Ha_2 := Lib.hid (Ha_1.out.below b2)
    have Hb_2 := Lib.hid (Hb_1.out.below b2)
    clear lt_a r_a0 r_a1 r_a2 r_a3 r_a4 r_a5 r_a6 lt_b r_b0 r_b1 r_b2 r_b3 r_b4 r_b5 r_b6 r_b7 r_b8
    clear HP_1 HQ_1 Ha_1 Hb_1
    clear cc
    have lt_a := Ha_2.out.lt
    obtain ⟨r_a0, r_a1, r_a2, r_a3, r_a4, r_a5, r_a6⟩ := bc7 Ha_2.out
    have lt_b := Hb_2.out.lt
    obtain ⟨r_b0, r_b1, r_b2, r_b3, r_b4, r_b5, r_b6, r_b7, r_b8⟩ := bc9 Hb_2.out
    go_wp21
    go_ret
    exact ⟨rfl, f2⟩
  | false =>
    rw [if_neg (by decide)] at hx
    subst hx
    
    go_wp2_with fail
    refine (cc).mono ?_
    rintro e v2 ⟨rfl, b2⟩
    have f2 := bthen f1 b2
    have z2 := b2.size
    have HP_2 := Lib.hid (HP_1.out.below b2)
    have HQ_2 := Lib.hid (HQ_1.out.below b2)
    have Ha_2 := Lib.hid (Ha_1.out.below b2)
    have Hb_2 := Lib.hid (Hb_1.out.below b2)
    clear lt_a r_a0 r_a1 r_a2 r_a3 r_a4 r_a5 r_a6 lt_b r_b0 r_b1 r_b2 r_b3 r_b4 r_b5 r_b6 r_b7 r_b8
    clear HP_1 HQ_1 Ha_1 Hb_1
    clear cc
    have lt_a := Ha_2.out.lt
    obtain ⟨r_a0, r_a1, r_a2, r_a3, r_a4, r_a5, r_a6⟩ := bc7 Ha_2.out
    have lt_b := Hb_2.out.lt
    obtain ⟨r_b0, r_b1, r_b2, r_b3, r_b4, r_b5, r_b6, r_b7, r_b8⟩ := bc9 Hb_2.out
    go_wp21
    go_ret
    exact ⟨rfl, f2⟩
set_option maxRecDepth 100000 in
theorem specEff_no (A : Option Addr) (n c : Nat) (B : Option Addr) (m d : Nat) (i0 t0 l0 l1 l2 : Int) (pl : List Pr) (ql : List Jb) (ex et ec es ek ea eb eg eh : Int) (w : World) (hP : Sl w 2 A n (PR pl)) (hQ : Sl w 5 B m (JB ql)) (hl : pl.length = n) (hr : ql.length = m) (hn : n ≤ maxLen) (hm : m ≤ maxLen) (hA : A = none → n = 0 ∧ c = 0) (hB : B = none → m = 0 ∧ d = 0) (hN : Hid (nextInB i0 t0 l0 l1 l2 pl ql ex et ec es ek ea eb eg eh = false)) :
    Calls Try.prog 44 #[.agg #[.int .i64 i0, .int .i64 t0, .slice A n c, .slice B m d, .int .i64 l0, .int .i64 l1, .int .i64 l2], .agg #[.int .i64 ex, .int .i64 et, .int .i64 ec, .int .i64 es, .int .i64 ek, .int .i64 ea, .int .i64 eb, .int .i64 eg, .int .i64 eh]] w fun e' w' => e' = .returned (.int .i64 (-1)) ∧ Below w.heap.size w w' := by
  have HP := Lib.hid hP
  have HQ := Lib.hid hQ
  have HA := Lib.hid hA
  have HB := Lib.hid hB
  have hL := Lib.hid hl
  have hR := Lib.hid hr
  clear hP hQ hA hB hl hr
  go_enter Try.func44, Try.ntmps44
  go_wp2_with fail
  refine calls_named ?_
  rintro v0 hv0
  have f0 : Below w.heap.size w v0 := by rw [hv0]; (repeat' (first | (with_reducible exact Below.refl _ _) | (with_reducible assumption) | (with_reducible refine Below.alloc ?_ ?_ _) | (with_reducible refine Below.drew ?_) | (with_reducible refine Below.setCell ?_ ?_ _) | (with_reducible refine bstep (by assumption) ?_ ?_) | (with_reducible exact Nat.le_refl _) | omega | (simp [*]; done) | (simp [*]; omega)))
  have z0 : w.heap.size + 2 ≤ v0.heap.size := by rw [hv0]; simp [size_set]
  have HP_0 := Lib.hid (HP.out.below f0)
  have HP_lt := Lib.hid (fun hn => HP.out.lt hn)
  have HQ_0 := Lib.hid (HQ.out.below f0)
  have HQ_lt := Lib.hid (fun hn => HQ.out.lt hn)
  have Ha_0 : Hid (Blk v0 w.heap.size 29 #[.int .i64 i0, .int .i64 t0, .slice A n c, .slice B m d, .int .i64 l0, .int .i64 l1, .int .i64 l2]) := by rw [hv0]; exact (Blk.new_at _ _ _ _ (by simp)).alloc _
  have Hb_0 : Hid (Blk v0 (w.heap.size + 1) 49 #[.int .i64 ex, .int .i64 et, .int .i64 ec, .int .i64 es, .int .i64 ek, .int .i64 ea, .int .i64 eb, .int .i64 eg, .int .i64 eh]) := by rw [hv0]; exact Blk.new_at _ _ _ _ (by simp)
  clear hv0
  generalize hg1 : w.heap.size + 1 = g1 at *
  have lg1 : w.heap.size < g1 := by omega
  have lgz : g1 < v0.heap.size := by omega
  have nq1x0 : ¬ g1 = w.heap.size := by omega
  have nq0x1 : ¬ w.heap.size = g1 := by omega
  clear hg1
  have lt_a := Ha_0.out.lt
  obtain ⟨r_a0, r_a1, r_a2, r_a3, r_a4, r_a5, r_a6⟩ := bc7 Ha_0.out
  have lt_b := Hb_0.out.lt
  obtain ⟨r_b0, r_b1, r_b2, r_b3, r_b4, r_b5, r_b6, r_b7, r_b8⟩ := bc9 Hb_0.out
  have cc := specNextIn_any A n c B m d i0 t0 l0 l1 l2 pl ql ex et ec es ek ea eb eg eh v0 HP_0.out HQ_0.out hL.out hR.out hn hm
  rw [hN.out] at cc
  refine (cc).mono ?_
  rintro e v1 ⟨rfl, b1⟩
  have f1 := bthen f0 b1
  have z1 := b1.size
  have HP_1 := Lib.hid (HP_0.out.below b1)
  have HQ_1 := Lib.hid (HQ_0.out.below b1)
  have Ha_1 := Lib.hid (Ha_0.out.below b1)
  have Hb_1 := Lib.hid (Hb_0.out.below b1)
  clear lt_a r_a0 r_a1 r_a2 r_a3 r_a4 r_a5 r_a6 lt_b r_b0 r_b1 r_b2 r_b3 r_b4 r_b5 r_b6 r_b7 r_b8
  clear HP_0 HQ_0 Ha_0 Hb_0
  clear cc
  have lt_a := Ha_1.out.lt
  obtain ⟨r_a0, r_a1, r_a2, r_a3, r_a4, r_a5, r_a6⟩ := bc7 Ha_1.out
  have lt_b := Hb_1.out.lt
  obtain ⟨r_b0, r_b1, r_b2, r_b3, r_b4, r_b5, r_b6, r_b7, r_b8⟩ := bc9 Hb_1.out
  go_wp21
  go_ret
  exact ⟨rfl, f1⟩
theorem specEffectOf_any (A : Option Addr) (n c : Nat) (B : Option Addr) (m d : Nat) (i0 t0 l0 l1 l2 : Int) (pl : List Pr) (ql : List Jb) (ex et ec es ek ea eb eg eh : Int) (w : World) (hP : Sl w 2 A n (PR pl)) (hQ : Sl w 5 B m (JB ql)) (hl : pl.length = n) (hr : ql.length = m) (hn : n ≤ maxLen) (hm : m ≤ maxLen) (hA : A = none → n = 0 ∧ c = 0) (hB : B = none → m = 0 ∧ d = 0) (x : Int) (hx : effI i0 t0 l0 l1 l2 pl ql ex et ec es ek ea eb eg eh = x) :
    Calls Try.prog 44 #[.agg #[.int .i64 i0, .int .i64 t0, .slice A n c, .slice B m d, .int .i64 l0, .int .i64 l1, .int .i64 l2], .agg #[.int .i64 ex, .int .i64 et, .int .i64 ec, .int .i64 es, .int .i64 ek, .int .i64 ea, .int .i64 eb, .int .i64 eg, .int .i64 eh]] w fun e' w' => e' = .returned (.int .i64 x) ∧ Below w.heap.size w w' := by
  cases q1 : nextInB i0 t0 l0 l1 l2 pl ql ex et ec es ek ea eb eg eh with
  | false =>
    have : x = -1 := by rw [← hx]; unfold effI; rw [if_neg (by rw [q1]; decide)]
    subst this
    exact specEff_no A n c B m d i0 t0 l0 l1 l2 pl ql ex et ec es ek ea eb eg eh w hP hQ hl hr hn hm hA hB (Lib.hid q1)
  | true =>
    have hx2 : appI l0 l1 l2 pl ql ex et ec es ek ea eb eg eh = x := by rw [← hx]; unfold effI; rw [if_pos q1]
    obtain ⟨hs, hnx⟩ := nextInB_both q1
    have hpb := (stateB_all hs).2.2.1
    clear hx
    unfold appI at hx2
    rcases nextB_kind hnx with rfl | rfl | rfl | rfl | rfl
    · rw [effE_1] at hx2
      exact specEff1 A n c B m d i0 t0 l0 l1 l2 pl ql ex et ec es ea eb eg eh w hP hQ hl hr hn hm hA hB (Lib.hid q1) _ (put_does hs hnx) x hx2
    · rw [effE_2] at hx2
      exact specEff2 A n c B m d i0 t0 l0 l1 l2 pl ql ex et ec es ea eb eg eh w hP hQ hl hr hn hm hA hB (Lib.hid q1) (valueAtB pl ea).2 (valueAtB pl ea).1 (Lib.hid rfl) x (by rw [ef_cut_is hpb]; exact hx2)
    · rw [effE_3] at hx2
      exact specEff3 A n c B m d i0 t0 l0 l1 l2 pl ql ex et ec es ea eb eg eh w hP hQ hl hr hn hm hA hB (Lib.hid q1) _ _ _ (Lib.hid rfl) (Lib.hid rfl) x hx2
    · refine specEff4 A n c B m d i0 t0 l0 l1 l2 pl ql ex et ec es ea eb eg eh w hP hQ hl hr hn hm hA hB (Lib.hid q1) _ (Lib.hid (firesIn_at q1)) x ?_
      cases hf : firesB l0 l1 l2 ql et ec 4 ea eb with
      | false => rw [effE_4n hf] at hx2; exact hx2
      | true => rw [effE_4y hf] at hx2; exact hx2
    · rw [effE_5] at hx2
      exact specEff5 A n c B m d i0 t0 l0 l1 l2 pl ql ex et ec es ea eb eg eh w hP hQ hl hr hn hm hA hB (Lib.hid q1) _ _ _ _ (Lib.hid rfl) x hx2
end Go.Proofs.Ytokklkmibjpjnaa

/- Clients: todoOk, ClientOk, the program's and the reference's. -/
import Derived.Test.YtckbnfgdjdppfaaC1
import Derived.Test.YtckbnfgdjdppfaaBk
namespace Go.Proofs.Ytckbnfgdjdppfaa
set_option linter.unusedSimpArgs false
set_option linter.unusedVariables false
attribute [local go_sem] n_lt2 n_lt3 n_lt4 n_le2 n_le3
open Go.RowKit
theorem wantsB_false {wl : List Wt} {k : Nat} (hk : k < wl.length) (h : wantOkB (wl.getD k default) = false) : wantsB wl = false := all_range_false hk h
theorem clientB_id {i0 t0 : Int} {wl : List Wt} {gl : List Gt} (h4 : ¬ i0 = 4) (h5 : ¬ i0 = 5) : clientB i0 wl gl t0 = false := by unfold clientB; simp [h4, h5]
theorem clientB_todo {i0 t0 : Int} {wl : List Wt} {gl : List Gt} (h : wantsB wl = false ∨ 12 < wl.length) : clientB i0 wl gl t0 = false := by
  unfold clientB
  rcases h with h | h
  · rw [h]; simp
  · rw [show decide (wl.length ≤ 12) = false from decide_eq_false (by omega)]; simp
theorem clientB_len {i0 t0 : Int} {wl : List Wt} {gl : List Gt} (h : wl.length < gl.length) : clientB i0 wl gl t0 = false := by
  unfold clientB
  rw [show decide (gl.length ≤ wl.length) = false from decide_eq_false (by omega)]; simp
theorem clientB_got {i0 t0 : Int} {wl : List Wt} {gl : List Gt} {k : Nat} (hk : k < gl.length) (h : gotAt wl gl k = false) : clientB i0 wl gl t0 = false := by
  unfold clientB gotsB
  rw [all_range_false hk h]; simp
theorem clientB_last {i0 t0 : Int} {wl : List Wt} {gl : List Gt} (h : i0 = 4 ∨ i0 = 5) (h1 : wantsB wl = true) (h2 : wl.length ≤ 12) (h3 : gl.length ≤ wl.length) (h4 : ∀ j, j < gl.length → gotAt wl gl j = true) : clientB i0 wl gl t0 = decide (t0 = lastAt gl gl.length) := by
  unfold clientB gotsB
  rw [h1, all_range_true h4, decide_eq_true h2, decide_eq_true h3]
  rcases h with h | h <;> subst h <;> simp
theorem gotAt_eq {wl : List Wt} {gl : List Gt} {k : Nat} {p : Wt} {q : Gt} (hp : wl.getD k default = p) (hq : gl.getD k default = q) : gotAt wl gl k = gotB p.k q.q q.x q.h q.v ((k : Int) + 1) (lastAt gl k) := by
  unfold gotAt; rw [hp, hq]
theorem lastAt_succ {gl : List Gt} {k : Nat} {q : Gt} (hq : gl.getD k default = q) : lastAt gl (k + 1) = q.x := by
  unfold lastAt
  rw [if_neg (by omega), Nat.add_sub_cancel, hq]
attribute [local go_sem] Ext.cell Ext.frozen
set_option maxHeartbeats 2000000 in
theorem todoOk_any (A : Option Addr) (n cap : Nat) (wl : List Wt) (w : World) (hP : Sl w 7 A n (WT wl)) (hl : wl.length = n) (hn : n ≤ maxLen) :
    Calls Try.prog 32 #[.slice A n cap] w fun e' w' => e' = .returned (.bool (wantsB wl && decide (n ≤ 12))) ∧ Below w.heap.size w w' := by
  have hL := Lib.hid hl
  have HP := Lib.hid hP
  clear hl hP
  unfold maxLen at hn
  go_enter Try.func32, Try.ntmps32
  go_wp2
  go_loopw [7] (fun i wr => ∃ k : Nat, k ≤ n ∧ i = .int .i64 k ∧ Below w.heap.size w wr ∧ Hid (∀ j, j < k → wantOkB (wl.getD j default) = true)) (fun i _ => n - (intOf i).toNat)
  case atStart => exact ⟨0, Nat.zero_le _, rfl, Below.refl _ _, Lib.hid (fun j hj => absurd hj (by omega))⟩
  case round =>
    obtain ⟨j, hk, rfl, hbl, hall⟩ := hrel
    by_cases hlt : j < n
    · obtain ⟨bb, off, rfl, hb, hcell⟩ := sl_wants HP.out (by omega)
      obtain ⟨h0, h1, h2, h3, h4, h5, h6⟩ := hcell j hlt
      clear hcell
      rw [← hbl.cell (by exact hb)] at h0 h1 h2 h3 h4 h5 h6
      generalize hp : wl.getD j default = p at h0 h1 h2 h3 h4 h5 h6
      obtain ⟨k, o, a, b, c, d, y⟩ := p
      simp only at h0 h1 h2 h3 h4 h5 h6
      have HPP := Lib.hid hp
      clear hp
      have hbr : bb < wr.heap.size := Nat.lt_of_lt_of_le hb hbl.size
      have hc := fun w0 => wantOk_any k o a b c d y w0
      cases hq : wantB k o a b c d y with
      | true =>
        have hq' := Lib.hid hq
        rw [hq] at hc
        clear hq
        go_wp2_with fail
        refine (hc _).mono ?_
        rintro e w1 ⟨rfl, b1⟩
        have hfr : Below w.heap.size w w1 := bstep b1 (hbl.alloc hbl.size _) (by have := hbl.size; simp; omega)
        go_wp21
        exact ⟨⟨j + 1, by omega, by go_num, hfr, Lib.hid (upto_succ hall.out (by rw [HPP.out]; exact hq'.out))⟩, by simp [intOf]; omega⟩
      | false =>
        have hq' := Lib.hid hq
        rw [hq] at hc
        clear hq
        go_wp2_with fail
        refine (hc _).mono ?_
        rintro e w1 ⟨rfl, b1⟩
        have hfr : Below w.heap.size w w1 := bstep b1 (hbl.alloc hbl.size _) (by have := hbl.size; simp; omega)
        go_wp21
        go_ret
        exact ⟨ret_bool (by rw [wantsB_false (hL.out.symm ▸ hlt) (by rw [HPP.out]; exact hq'.out)]; rfl), hfr⟩
    · have hkn : j = n := by omega
      subst hkn
      go_wp21
      go_ret
      have hw : wantsB wl = true := all_range_true (hL.out.symm ▸ hall.out)
      exact ⟨ret_bool (by rw [hw]; by_cases h : j ≤ 12 <;> simp [h] <;> omega), hbl⟩
set_option maxRecDepth 100000 in
set_option maxHeartbeats 4000000 in
theorem clientOk_any (A : Option Addr) (n c : Nat) (B : Option Addr) (m d : Nat) (i0 t0 : Int) (wl : List Wt) (gl : List Gt) (w : World) (hP : Sl w 7 A n (WT wl)) (hQ : Sl w 4 B m (GT gl)) (hl : wl.length = n) (hr : gl.length = m) (hn : n ≤ maxLen) (hm : m ≤ maxLen) :
    Calls Try.prog 17 #[.agg #[.int .i64 i0, .slice A n c, .slice B m d, .int .i64 t0]] w fun e' w' => e' = .returned (.bool (clientB i0 wl gl t0)) ∧ Below w.heap.size w w' := by
  have hL := Lib.hid hl
  have hR := Lib.hid hr
  have HP := Lib.hid hP
  have HQ := Lib.hid hQ
  clear hP hQ hl hr
  have hm0 := hn
  unfold maxLen at hn hm
  by_cases hid : i0 = 4 ∨ i0 = 5
  rotate_left
  · have h4 : ¬ i0 = 4 := fun h => hid (.inl h)
    have h5 : ¬ i0 = 5 := fun h => hid (.inr h)
    have hv := Lib.hid (clientB_id (t0 := t0) (wl := wl) (gl := gl) h4 h5)
    clear hid
    go_enter Try.func17, Try.ntmps17
    go_wp21
    go_ret
    exact ⟨ret_bool hv.out.symm, by (repeat' (first | (with_reducible exact Below.refl _ _) | (with_reducible assumption) | (with_reducible refine Below.alloc ?_ ?_ _) | (with_reducible refine Below.drew ?_) | (with_reducible refine Below.setCell ?_ ?_ _) | (with_reducible refine bstep (by assumption) ?_ ?_) | (with_reducible exact Nat.le_refl _) | omega | (simp [*]; done) | (simp [*]; omega)))⟩
  have HI := Lib.hid hid
  rcases hid with rfl | rfl
  · go_enter Try.func17, Try.ntmps17
    go_wp2_with fail
    refine calls_named ?_
    rintro v0 hv0
    have f0 : Below w.heap.size w v0 := by rw [hv0]; (repeat' (first | (with_reducible exact Below.refl _ _) | (with_reducible assumption) | (with_reducible refine Below.alloc ?_ ?_ _) | (with_reducible refine Below.drew ?_) | (with_reducible refine Below.setCell ?_ ?_ _) | (with_reducible refine bstep (by assumption) ?_ ?_) | (with_reducible exact Nat.le_refl _) | omega | (simp [*]; done) | (simp [*]; omega)))
    have HK := Lib.hid (show Blk v0 w.heap.size 32 #[.int .i64 4, .slice A n c, .slice B m d, .int .i64 t0] by rw [hv0]; exact Blk.new _ _ _)
    clear hv0
    have c1 := todoOk_any A n c wl v0 (HP.out.below f0) hL.out hm0
    cases hw : (wantsB wl && decide (n ≤ 12)) with
    | false =>
      rw [hw] at c1
      have hv := Lib.hid (show clientB 4 wl gl t0 = false from clientB_todo (by
        have := hL.out
        rcases Bool.and_eq_false_iff.1 hw with h | h
        · exact .inl h
        · exact .inr (by simpa [this] using h)))
      clear hw
      refine c1.mono ?_
      rintro e v1 ⟨rfl, b1⟩
      go_wp21
      go_ret
      exact ⟨ret_bool hv.out.symm, bthen f0 b1⟩
    | true =>
      rw [hw] at c1
      have hw2 : wantsB wl = true ∧ n ≤ 12 := by simpa using hw
      have HW := Lib.hid hw2.1
      have hn12 := hw2.2
      clear hw hw2
      refine c1.mono ?_
      rintro e v1 ⟨rfl, b1⟩
      have f1 := bthen f0 b1
      have HK1 := Lib.hid (HK.out.below b1)
      clear HK c1
      have lt_c := HK1.out.lt
      have r_c0 : v1.cell? ⟨w.heap.size, 0, none⟩ = some (.int .i64 4) := HK1.out.cell 0
      have r_c1 : v1.cell? ⟨w.heap.size, 1, none⟩ = some (.slice A n c) := HK1.out.cell 1
      have r_c2 : v1.cell? ⟨w.heap.size, 2, none⟩ = some (.slice B m d) := HK1.out.cell 2
      have r_c3 : v1.cell? ⟨w.heap.size, 3, none⟩ = some (.int .i64 t0) := HK1.out.cell 3
      by_cases hmn : n < m
      · have hmn' : (n : Int) < (m : Int) := by omega
        have hv := Lib.hid (show clientB 4 wl gl t0 = false from clientB_len (by rw [hL.out, hR.out]; exact hmn))
        go_wp21
        go_ret
        exact ⟨ret_bool hv.out.symm, f1⟩
      have hmn' : ¬ (n : Int) < (m : Int) := by omega
      go_wp21
      clear lt_c r_c0 r_c1 r_c2 r_c3
      go_loopw [3, 32] (fun lv iv wr => ∃ j : Nat, j ≤ m ∧ lv = .int .i64 (lastAt gl j) ∧ iv = .int .i64 j ∧ Below w.heap.size w wr ∧ Hid (Blk wr w.heap.size 32 #[.int .i64 4, .slice A n c, .slice B m d, .int .i64 t0]) ∧ Hid (∀ i, i < j → gotAt wl gl i = true)) (fun _ iv _ => m - (intOf iv).toNat)
      case atStart => exact ⟨0, Nat.zero_le _, rfl, rfl, f1, HK1, Lib.hid (fun j hj => absurd hj (by omega))⟩
      case round =>
        obtain ⟨j, hj, rfl, rfl, hbl, HKr, hall⟩ := hrel
        have lt_c := HKr.out.lt
        have r_c0 : wr.cell? ⟨w.heap.size, 0, none⟩ = some (.int .i64 4) := HKr.out.cell 0
        have r_c1 : wr.cell? ⟨w.heap.size, 1, none⟩ = some (.slice A n c) := HKr.out.cell 1
        have r_c2 : wr.cell? ⟨w.heap.size, 2, none⟩ = some (.slice B m d) := HKr.out.cell 2
        have r_c3 : wr.cell? ⟨w.heap.size, 3, none⟩ = some (.int .i64 t0) := HKr.out.cell 3
        by_cases hlt : j < m
        · have hlt' : (j : Int) < (m : Int) := by omega
          have hjn : j < n := by omega
          obtain ⟨bw, ow, rfl, hbw, hcw⟩ := sl_wants HP.out (by omega)
          obtain ⟨bg, og, rfl, hbg, hcg⟩ := sl_gots HQ.out (by omega)
          obtain ⟨h0, h1, h2, h3, h4, h5, h6⟩ := hcw j hjn
          obtain ⟨p0, p1, p2, p3⟩ := hcg j hlt
          clear hcw hcg
          rw [← hbl.cell (by exact hbw)] at h0 h1 h2 h3 h4 h5 h6
          rw [← hbl.cell (by exact hbg)] at p0 p1 p2 p3
          generalize hp : wl.getD j default = p at h0 h1 h2 h3 h4 h5 h6
          generalize hq : gl.getD j default = q at p0 p1 p2 p3
          have HG := Lib.hid (gotAt_eq hp hq)
          have HS1 := Lib.hid (lastAt_succ hq)
          obtain ⟨k, o, a, b, c0, d0, y⟩ := p
          obtain ⟨q, x, h, v⟩ := q
          simp only at h0 h1 h2 h3 h4 h5 h6 p0 p1 p2 p3 HG HS1
          clear hp hq
          have hbrw : bw < wr.heap.size := Nat.lt_of_lt_of_le hbw hbl.size
          have hbrg : bg < wr.heap.size := Nat.lt_of_lt_of_le hbg hbl.size
          generalize lastAt gl j = la at HG ⊢
          have hwk : IntKind.i64.wrap ((j : Int) + 1) = (j : Int) + 1 := by simp [IntKind.wrap, IntKind.bits, IntKind.signed]; omega
          have hc := fun w0 => gotOk_any k o a b c0 d0 y q x h v ((j : Int) + 1) la w0
          cases hq : gotB k q x h v ((j : Int) + 1) la with
          | true =>
            rw [hq] at hc HG
            clear hq
            go_wp2
            ((refine wp_region_ext (by kernel_rfl) (by kernel_rfl) ?_); (repeat (any_goals (first | go_big_quiet_step ((go_at_call 33; exact quiet_ext (hc _))) | (refine wpQuiet_step (fun K hK => ?_); go_simp; split <;> (refine hK _ ?_; clear hK K)) | quiet_step ((go_at_call 33; exact quiet_ext (hc _)))))); (all_goals (refine wpQuiet_nil ?_; rintro _ ⟨z, rfl⟩; have hb' := z.h; generalize z.w = w1 at hb' ⊢; clear z; (first | (have hb2 := bstep hb' hb hb.size; clear hb' hcb hfb hz1 hz2 hz3 hz4 hb; have hb := hb2; clear hb2) | (have hb := hb'; clear hb')); obtain ⟨hcb, hfb, hz1, hz2, hz3, hz4⟩ := bcell hb; (try simp only [World.size_alloc, World.size_setCell, World.size_drew, Nat.lt_add_one_iff, Nat.add_assoc, Nat.reduceAdd] at hz1 hz2 hz3 hz4))))
            have hfr : Below w.heap.size w w1 := bstep hb (hbl.alloc hbl.size _) (by have := hbl.size; simp; omega)
            have HK9 := Lib.hid ((HKr.out.alloc _).below hb)
            go_wp21
            exact ⟨⟨j + 1, by omega, by rw [HS1.out], by go_num, hfr, HK9, Lib.hid (upto_succ hall.out HG.out)⟩, by simp [intOf]; omega⟩
          | false =>
            rw [hq] at hc HG
            clear hq
            have hv := Lib.hid (show clientB 4 wl gl t0 = false from clientB_got (by rw [hR.out]; exact hlt) HG.out)
            go_wp2
            ((refine wp_region_ext (by kernel_rfl) (by kernel_rfl) ?_); (repeat (any_goals (first | go_big_quiet_step ((go_at_call 33; exact quiet_ext (hc _))) | (refine wpQuiet_step (fun K hK => ?_); go_simp; split <;> (refine hK _ ?_; clear hK K)) | quiet_step ((go_at_call 33; exact quiet_ext (hc _)))))); (all_goals (refine wpQuiet_nil ?_; rintro _ ⟨z, rfl⟩; have hb' := z.h; generalize z.w = w1 at hb' ⊢; clear z; (first | (have hb2 := bstep hb' hb hb.size; clear hb' hcb hfb hz1 hz2 hz3 hz4 hb; have hb := hb2; clear hb2) | (have hb := hb'; clear hb')); obtain ⟨hcb, hfb, hz1, hz2, hz3, hz4⟩ := bcell hb; (try simp only [World.size_alloc, World.size_setCell, World.size_drew, Nat.lt_add_one_iff, Nat.add_assoc, Nat.reduceAdd] at hz1 hz2 hz3 hz4))))
            have hfr : Below w.heap.size w w1 := bstep hb (hbl.alloc hbl.size _) (by have := hbl.size; simp; omega)
            go_wp21
            go_ret
            exact ⟨ret_bool hv.out.symm, hfr⟩
        · have hkn : j = m := by omega
          subst hkn
          have hlt' : ¬ (j : Int) < (j : Int) := by omega
          have hv := Lib.hid (show clientB 4 wl gl t0 = decide (t0 = lastAt gl gl.length) from clientB_last (by first | exact .inl rfl | exact .inr rfl) HW.out (by rw [hL.out]; exact hn12) (by rw [hL.out, hR.out]; omega) (by rw [hR.out]; exact hall.out))
          rw [hR.out] at hv
          generalize lastAt gl j = la at hv ⊢
          go_wp21
          go_ret
          exact ⟨ret_bool (by rw [hv.out, beqI]), hbl⟩
  · go_enter Try.func17, Try.ntmps17
    go_wp2_with fail
    refine calls_named ?_
    rintro v0 hv0
    have f0 : Below w.heap.size w v0 := by rw [hv0]; (repeat' (first | (with_reducible exact Below.refl _ _) | (with_reducible assumption) | (with_reducible refine Below.alloc ?_ ?_ _) | (with_reducible refine Below.drew ?_) | (with_reducible refine Below.setCell ?_ ?_ _) | (with_reducible refine bstep (by assumption) ?_ ?_) | (with_reducible exact Nat.le_refl _) | omega | (simp [*]; done) | (simp [*]; omega)))
    have HK := Lib.hid (show Blk v0 w.heap.size 32 #[.int .i64 5, .slice A n c, .slice B m d, .int .i64 t0] by rw [hv0]; exact Blk.new _ _ _)
    clear hv0
    have c1 := todoOk_any A n c wl v0 (HP.out.below f0) hL.out hm0
    cases hw : (wantsB wl && decide (n ≤ 12)) with
    | false =>
      rw [hw] at c1
      have hv := Lib.hid (show clientB 5 wl gl t0 = false from clientB_todo (by
        have := hL.out
        rcases Bool.and_eq_false_iff.1 hw with h | h
        · exact .inl h
        · exact .inr (by simpa [this] using h)))
      clear hw
      refine c1.mono ?_
      rintro e v1 ⟨rfl, b1⟩
      go_wp21
      go_ret
      exact ⟨ret_bool hv.out.symm, bthen f0 b1⟩
    | true =>
      rw [hw] at c1
      have hw2 : wantsB wl = true ∧ n ≤ 12 := by simpa using hw
      have HW := Lib.hid hw2.1
      have hn12 := hw2.2
      clear hw hw2
      refine c1.mono ?_
      rintro e v1 ⟨rfl, b1⟩
      have f1 := bthen f0 b1
      have HK1 := Lib.hid (HK.out.below b1)
      clear HK c1
      have lt_c := HK1.out.lt
      have r_c0 : v1.cell? ⟨w.heap.size, 0, none⟩ = some (.int .i64 5) := HK1.out.cell 0
      have r_c1 : v1.cell? ⟨w.heap.size, 1, none⟩ = some (.slice A n c) := HK1.out.cell 1
      have r_c2 : v1.cell? ⟨w.heap.size, 2, none⟩ = some (.slice B m d) := HK1.out.cell 2
      have r_c3 : v1.cell? ⟨w.heap.size, 3, none⟩ = some (.int .i64 t0) := HK1.out.cell 3
      by_cases hmn : n < m
      · have hmn' : (n : Int) < (m : Int) := by omega
        have hv := Lib.hid (show clientB 5 wl gl t0 = false from clientB_len (by rw [hL.out, hR.out]; exact hmn))
        go_wp21
        go_ret
        exact ⟨ret_bool hv.out.symm, f1⟩
      have hmn' : ¬ (n : Int) < (m : Int) := by omega
      go_wp21
      clear lt_c r_c0 r_c1 r_c2 r_c3
      go_loopw [3, 32] (fun lv iv wr => ∃ j : Nat, j ≤ m ∧ lv = .int .i64 (lastAt gl j) ∧ iv = .int .i64 j ∧ Below w.heap.size w wr ∧ Hid (Blk wr w.heap.size 32 #[.int .i64 5, .slice A n c, .slice B m d, .int .i64 t0]) ∧ Hid (∀ i, i < j → gotAt wl gl i = true)) (fun _ iv _ => m - (intOf iv).toNat)
      case atStart => exact ⟨0, Nat.zero_le _, rfl, rfl, f1, HK1, Lib.hid (fun j hj => absurd hj (by omega))⟩
      case round =>
        obtain ⟨j, hj, rfl, rfl, hbl, HKr, hall⟩ := hrel
        have lt_c := HKr.out.lt
        have r_c0 : wr.cell? ⟨w.heap.size, 0, none⟩ = some (.int .i64 5) := HKr.out.cell 0
        have r_c1 : wr.cell? ⟨w.heap.size, 1, none⟩ = some (.slice A n c) := HKr.out.cell 1
        have r_c2 : wr.cell? ⟨w.heap.size, 2, none⟩ = some (.slice B m d) := HKr.out.cell 2
        have r_c3 : wr.cell? ⟨w.heap.size, 3, none⟩ = some (.int .i64 t0) := HKr.out.cell 3
        by_cases hlt : j < m
        · have hlt' : (j : Int) < (m : Int) := by omega
          have hjn : j < n := by omega
          obtain ⟨bw, ow, rfl, hbw, hcw⟩ := sl_wants HP.out (by omega)
          obtain ⟨bg, og, rfl, hbg, hcg⟩ := sl_gots HQ.out (by omega)
          obtain ⟨h0, h1, h2, h3, h4, h5, h6⟩ := hcw j hjn
          obtain ⟨p0, p1, p2, p3⟩ := hcg j hlt
          clear hcw hcg
          rw [← hbl.cell (by exact hbw)] at h0 h1 h2 h3 h4 h5 h6
          rw [← hbl.cell (by exact hbg)] at p0 p1 p2 p3
          generalize hp : wl.getD j default = p at h0 h1 h2 h3 h4 h5 h6
          generalize hq : gl.getD j default = q at p0 p1 p2 p3
          have HG := Lib.hid (gotAt_eq hp hq)
          have HS1 := Lib.hid (lastAt_succ hq)
          obtain ⟨k, o, a, b, c0, d0, y⟩ := p
          obtain ⟨q, x, h, v⟩ := q
          simp only at h0 h1 h2 h3 h4 h5 h6 p0 p1 p2 p3 HG HS1
          clear hp hq
          have hbrw : bw < wr.heap.size := Nat.lt_of_lt_of_le hbw hbl.size
          have hbrg : bg < wr.heap.size := Nat.lt_of_lt_of_le hbg hbl.size
          generalize lastAt gl j = la at HG ⊢
          have hwk : IntKind.i64.wrap ((j : Int) + 1) = (j : Int) + 1 := by simp [IntKind.wrap, IntKind.bits, IntKind.signed]; omega
          have hc := fun w0 => gotOk_any k o a b c0 d0 y q x h v ((j : Int) + 1) la w0
          cases hq : gotB k q x h v ((j : Int) + 1) la with
          | true =>
            rw [hq] at hc HG
            clear hq
            go_wp2
            ((refine wp_region_ext (by kernel_rfl) (by kernel_rfl) ?_); (repeat (any_goals (first | go_big_quiet_step ((go_at_call 33; exact quiet_ext (hc _))) | (refine wpQuiet_step (fun K hK => ?_); go_simp; split <;> (refine hK _ ?_; clear hK K)) | quiet_step ((go_at_call 33; exact quiet_ext (hc _)))))); (all_goals (refine wpQuiet_nil ?_; rintro _ ⟨z, rfl⟩; have hb' := z.h; generalize z.w = w1 at hb' ⊢; clear z; (first | (have hb2 := bstep hb' hb hb.size; clear hb' hcb hfb hz1 hz2 hz3 hz4 hb; have hb := hb2; clear hb2) | (have hb := hb'; clear hb')); obtain ⟨hcb, hfb, hz1, hz2, hz3, hz4⟩ := bcell hb; (try simp only [World.size_alloc, World.size_setCell, World.size_drew, Nat.lt_add_one_iff, Nat.add_assoc, Nat.reduceAdd] at hz1 hz2 hz3 hz4))))
            have hfr : Below w.heap.size w w1 := bstep hb (hbl.alloc hbl.size _) (by have := hbl.size; simp; omega)
            have HK9 := Lib.hid ((HKr.out.alloc _).below hb)
            go_wp21
            exact ⟨⟨j + 1, by omega, by rw [HS1.out], by go_num, hfr, HK9, Lib.hid (upto_succ hall.out HG.out)⟩, by simp [intOf]; omega⟩
          | false =>
            rw [hq] at hc HG
            clear hq
            have hv := Lib.hid (show clientB 5 wl gl t0 = false from clientB_got (by rw [hR.out]; exact hlt) HG.out)
            go_wp2
            ((refine wp_region_ext (by kernel_rfl) (by kernel_rfl) ?_); (repeat (any_goals (first | go_big_quiet_step ((go_at_call 33; exact quiet_ext (hc _))) | (refine wpQuiet_step (fun K hK => ?_); go_simp; split <;> (refine hK _ ?_; clear hK K)) | quiet_step ((go_at_call 33; exact quiet_ext (hc _)))))); (all_goals (refine wpQuiet_nil ?_; rintro _ ⟨z, rfl⟩; have hb' := z.h; generalize z.w = w1 at hb' ⊢; clear z; (first | (have hb2 := bstep hb' hb hb.size; clear hb' hcb hfb hz1 hz2 hz3 hz4 hb; have hb := hb2; clear hb2) | (have hb := hb'; clear hb')); obtain ⟨hcb, hfb, hz1, hz2, hz3, hz4⟩ := bcell hb; (try simp only [World.size_alloc, World.size_setCell, World.size_drew, Nat.lt_add_one_iff, Nat.add_assoc, Nat.reduceAdd] at hz1 hz2 hz3 hz4))))
            have hfr : Below w.heap.size w w1 := bstep hb (hbl.alloc hbl.size _) (by have := hbl.size; simp; omega)
            go_wp21
            go_ret
            exact ⟨ret_bool hv.out.symm, hfr⟩
        · have hkn : j = m := by omega
          subst hkn
          have hlt' : ¬ (j : Int) < (j : Int) := by omega
          have hv := Lib.hid (show clientB 5 wl gl t0 = decide (t0 = lastAt gl gl.length) from clientB_last (by first | exact .inl rfl | exact .inr rfl) HW.out (by rw [hL.out]; exact hn12) (by rw [hL.out, hR.out]; omega) (by rw [hR.out]; exact hall.out))
          rw [hR.out] at hv
          generalize lastAt gl j = la at hv ⊢
          go_wp21
          go_ret
          exact ⟨ret_bool (by rw [hv.out, beqI]), hbl⟩
end Go.Proofs.Ytckbnfgdjdppfaa

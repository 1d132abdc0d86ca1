/- Job lists: JobsOk, the reference's. -/
import Derived.Test.YtgpllffiahccjaaA1
import Derived.Test.YtgpllffiahccjaaFlatS
import Derived.Test.YtgpllffiahccjaaJob1
namespace Go.Proofs.Ytgpllffiahccjaa
set_option linter.unusedSimpArgs false
set_option linter.unusedVariables false
attribute [local go_sem] n_lt2 n_lt3 n_lt4 n_le2 n_le3
open Go.RowKit

structure Jb where
  i : Int
  d : Int
  k : Int
  v : Int
  f : Int
instance : Inhabited Jb := ⟨⟨0, 0, 0, 0, 0⟩⟩
/-- A job list, its numbers one behind the other. -/
def JB (l : List Jb) : List Int := l.flatMap fun j => [j.i, j.d, j.k, j.v, j.f]
theorem JB_len (l : List Jb) : (JB l).length = l.length * 5 := flat_len _ 5 l (fun _ _ => rfl)
theorem JB_get (l : List Jb) (i j : Nat) (h : i < l.length) (hj : j < 5) : (JB l).getD (i * 5 + j) 0 = [(l.getD i default).i, (l.getD i default).d, (l.getD i default).k, (l.getD i default).v, (l.getD i default).f].getD j 0 := by
  have := flat_getD (fun j : Jb => [j.i, j.d, j.k, j.v, j.f]) 5 l (fun _ _ => rfl) i j h hj
  have e : l.getD i default = l[i] := by simp [List.getD, h]
  rw [e]
  exact this
theorem JB_of : ∀ (n : Nat) (zs : List Int), zs.length = n * 5 → ∃ l : List Jb, l.length = n ∧ JB l = zs
  | 0, zs, h => ⟨[], rfl, by simpa [JB] using (List.eq_nil_of_length_eq_zero (by omega)).symm⟩
  | n + 1, a :: b :: c :: d :: e :: zs, h => by
    obtain ⟨l, hl, he⟩ := JB_of n zs (by simp at h; omega)
    exact ⟨⟨a, b, c, d, e⟩ :: l, by simp [hl], by rw [← he]; rfl⟩
  | n + 1, [], h => by simp at h
  | n + 1, [_], h => by simp at h; omega
  | n + 1, [_, _], h => by simp at h; omega
  | n + 1, [_, _, _], h => by simp at h; omega
  | n + 1, [_, _, _, _], h => by simp at h; omega
theorem sl_jobs {w : World} {A : Option Addr} {n : Nat} {l : List Jb} (h : Sl w 5 A n (JB l)) (hn : 0 < n) : ∃ b off, A = some ⟨b, off, none⟩ ∧ b < w.heap.size ∧
    ∀ i, i < n → w.cell? ⟨b, off + i * 5, none⟩ = some (.int .i64 (l.getD i default).i) ∧ w.cell? ⟨b, off + i * 5 + 1, none⟩ = some (.int .i64 (l.getD i default).d) ∧ w.cell? ⟨b, off + i * 5 + 2, none⟩ = some (.int .i64 (l.getD i default).k) ∧ w.cell? ⟨b, off + i * 5 + 3, none⟩ = some (.int .i64 (l.getD i default).v) ∧ w.cell? ⟨b, off + i * 5 + 4, none⟩ = some (.int .i64 (l.getD i default).f) := by
  have hl : l.length = n := by
    have := h.len
    rw [JB_len] at this
    omega
  obtain ⟨b, off, hA, hb, hc⟩ := h.at_ hn
  have hg : ∀ i, i < n → ∀ j, j < 5 → w.cell? ⟨b, off + i * 5 + j, none⟩ = some (.int .i64 ([(l.getD i default).i, (l.getD i default).d, (l.getD i default).k, (l.getD i default).v, (l.getD i default).f].getD j 0)) := fun i hi j hj => by
    rw [Nat.add_assoc, hc (i * 5 + j) (by omega), JB_get l i j (by omega) hj]
  exact ⟨b, off, hA, hb, fun i hi => ⟨hg i hi 0 (by decide), hg i hi 1 (by decide), hg i hi 2 (by decide), hg i hi 3 (by decide), hg i hi 4 (by decide)⟩⟩

def jobOkB (j : Jb) : Bool := jobB j.i j.d j.k j.v j.f
def firedBefore (l : List Jb) (i : Nat) (x : Int) : Bool := (List.range i).any (fun k => decide ((l.getD k default).f = x))
def jobAtB (l : List Jb) (i : Nat) : Bool := jobOkB (l.getD i default) && ((decide (i = 0) || decide ((l.getD (i-1) default).i < (l.getD i default).i)) && !(decide (0 < (l.getD i default).f) && firedBefore l i (l.getD i default).f))
def jobsB (l : List Jb) : Bool := decide (l.length ≤ 8) && (List.range l.length).all (jobAtB l)
theorem jobsB_true {l : List Jb} (h8 : l.length ≤ 8) (h : ∀ j, j < l.length → jobAtB l j = true) : jobsB l = true := by
  unfold jobsB; rw [all_range_true h]; simpa using h8
theorem jobsB_false {l : List Jb} {k : Nat} (hk : k < l.length) (h : jobAtB l k = false) : jobsB l = false := by
  unfold jobsB; rw [all_range_false hk h]; simp
theorem jobsB_long {l : List Jb} (h : 8 < l.length) : jobsB l = false := by
  unfold jobsB; simp; intro h'; omega
theorem jobsB_all {l : List Jb} (h : jobsB l = true) : l.length ≤ 8 ∧ ∀ j, j < l.length → jobAtB l j = true := by
  unfold jobsB at h
  simp only [Bool.and_eq_true, decide_eq_true_eq, List.all_eq_true] at h
  exact ⟨h.1, fun j hj => h.2 j (List.mem_range.2 hj)⟩
theorem firedBefore_false {l : List Jb} {i : Nat} {x : Int} (h : ∀ j, j < i → (l.getD j default).f ≠ x) : firedBefore l i x = false := by
  unfold firedBefore
  rw [List.any_eq_false]
  intro j hj
  simpa using h j (List.mem_range.1 hj)
theorem firedBefore_true {l : List Jb} {i j : Nat} {x : Int} (hj : j < i) (h : (l.getD j default).f = x) : firedBefore l i x = true := by
  unfold firedBefore
  rw [List.any_eq_true]
  exact ⟨j, List.mem_range.2 hj, by simpa using h⟩
theorem jobAtB_1 {l : List Jb} {i : Nat} (h : jobOkB (l.getD i default) = false) : jobAtB l i = false := by unfold jobAtB; rw [h]; rfl
theorem jobAtB_2 {l : List Jb} {i : Nat} (h0 : 0 < i) (h : (l.getD i default).i ≤ (l.getD (i-1) default).i) : jobAtB l i = false := by
  unfold jobAtB
  rw [show decide (i = 0) = false from decide_eq_false (by omega), show decide ((l.getD (i-1) default).i < (l.getD i default).i) = false from decide_eq_false (by omega)]
  simp
theorem jobAtB_3 {l : List Jb} {i : Nat} (h0 : 0 < (l.getD i default).f) (h : firedBefore l i (l.getD i default).f = true) : jobAtB l i = false := by
  unfold jobAtB
  rw [h, show decide (0 < (l.getD i default).f) = true by simpa using h0]
  simp
theorem jobAtB_4 {l : List Jb} {i : Nat} (h1 : jobOkB (l.getD i default) = true) (h2 : i = 0 ∨ (l.getD (i-1) default).i < (l.getD i default).i) (h3 : (l.getD i default).f ≤ 0 ∨ firedBefore l i (l.getD i default).f = false) : jobAtB l i = true := by
  unfold jobAtB
  rw [h1]
  have e2 : (decide (i = 0) || decide ((l.getD (i-1) default).i < (l.getD i default).i)) = true := by simpa using h2
  rw [e2]
  rcases h3 with h3 | h3
  · rw [show decide (0 < (l.getD i default).f) = false from decide_eq_false (by omega)]; rfl
  · rw [h3]; simp
theorem jobB_fired {a b c d e : Int} (h : jobB a b c d e = true) : 0 ≤ e ∧ e ≤ 2000 := by
  unfold jobB at h
  simp only [Bool.and_eq_true, inB_iff] at h
  omega
attribute [local go_sem] Ext.cell Ext.frozen

set_option maxHeartbeats 2000000 in
theorem specJobsOk_any (A : Option Addr) (n cap : Nat) (l : List Jb) (w : World) (hS : Sl w 5 A n (JB l)) (hl : l.length = n) (hn : n ≤ maxLen) :
    Calls Try.prog 37 #[.slice A n cap] w fun e' w' => e' = .returned (.bool (jobsB l)) ∧ Below w.heap.size w w' := by
  unfold maxLen at hn
  by_cases h8 : 8 < n
  · have hv : jobsB l = false := jobsB_long (by omega)
    have h8' : (8 : Int) < (n : Int) := by omega
    clear hS hl
    go_enter Try.func37, Try.ntmps37
    go_wp2
    go_ret
    exact ⟨ret_bool hv.symm, Below.refl _ _⟩
  have h8' : (n : Int) ≤ 8 := by omega
  have hL := Lib.hid hl
  have HS := Lib.hid hS
  clear hl hS h8
  go_enter Try.func37, Try.ntmps37
  go_wp2
  go_loopw [3, 4] (fun i _ wr => ∃ k : Nat, k ≤ n ∧ i = .int .i64 k ∧ Below w.heap.size w wr ∧ Hid (∀ j, j < k → jobAtB l j = true)) (fun i _ _ => n - (intOf i).toNat)
  case atStart => exact ⟨0, Nat.zero_le _, rfl, Below.refl _ _, fun j hj => absurd hj (by omega)⟩
  case round =>
    obtain ⟨k, hk, rfl, hbl, hall⟩ := hrel
    by_cases hlt : k < n
    · obtain ⟨b, off, rfl, hb, hcell⟩ := sl_jobs HS.out (by omega)
      have HC := Lib.hid hcell
      obtain ⟨h0, h1, h2, h3, h4⟩ := hcell k hlt
      have g0 := (hcell (k - 1) (by omega)).1
      clear hcell
      rw [← hbl.cell (by exact hb)] at h0 h1 h2 h3 h4 g0
      generalize hp : l.getD k default = p at h0 h1 h2 h3 h4
      generalize hp0 : l.getD (k - 1) default = p0 at g0
      obtain ⟨x0, x1, x2, x3, x4⟩ := p
      obtain ⟨y0, y1, y2, y3, y4⟩ := p0
      simp only at h0 h1 h2 h3 h4 g0
      have HP := Lib.hid (And.intro hp hp0)
      clear hp hp0
      have hbr : b < wr.heap.size := Nat.lt_of_lt_of_le hb hbl.size
      by_cases hj : jobB x0 x1 x2 x3 x4 = true
      · have hC : ∀ w0, Calls Try.prog 91 #[.agg #[.int .i64 x0, .int .i64 x1, .int .i64 x2, .int .i64 x3, .int .i64 x4]] w0 fun e' w' => e' = .returned (.bool true) ∧ Below w0.heap.size w0 w' := fun w0 => by
          have := specJobOk_any x0 x1 x2 x3 x4 w0
          rwa [hj] at this
        have HJ := Lib.hid hj
        clear hj
        by_cases hbad : 0 < k ∧ x0 ≤ y0
        · obtain ⟨hk0, hxy⟩ := hbad
          have hk0' : (0 : Int) < (k : Int) := by omega
          go_wp2
          ((refine wp_region_ext (by kernel_rfl) (by kernel_rfl) ?_); (repeat (any_goals (first | go_big_quiet_step ((go_at_call 91; exact quiet_ext (hC _))) | (refine wpQuiet_step (fun K hK => ?_); go_simp; split <;> (refine hK _ ?_; clear hK K)) | quiet_step ((go_at_call 91; exact quiet_ext (hC _)))))); (all_goals (refine wpQuiet_nil ?_; rintro _ ⟨z, rfl⟩; have hb' := z.h; generalize z.w = w1 at hb' ⊢; clear z; (first | (have hb2 := bstep hb' hb hb.size; clear hb' hcb hfb hz1 hz2 hz3 hz4 hb; have hb := hb2; clear hb2) | (have hb := hb'; clear hb')); obtain ⟨hcb, hfb, hz1, hz2, hz3, hz4⟩ := bcell hb; (try simp only [World.size_alloc, World.size_setCell, World.size_drew, Nat.lt_add_one_iff, Nat.add_assoc, Nat.reduceAdd] at hz1 hz2 hz3 hz4))))
          all_goals go_wp2
          all_goals go_ret
          all_goals exact ⟨ret_bool (jobsB_false (hL.out.symm ▸ hlt) (jobAtB_2 hk0 (by rw [HP.out.1, HP.out.2]; exact hxy))).symm, bstep hb hbl hbl.size⟩
        · have hgood : k = 0 ∨ y0 < x0 := by omega
          have hgz : (0 : Int) < (k : Int) → y0 < x0 := fun h => by omega
          have hbw : b < w.heap.size := hb
          rcases Nat.eq_zero_or_pos k with hk0 | hk0
          · have hk0' : ¬ (0 : Int) < (k : Int) := by omega
            have HK := Lib.hid hk0
            have HG := Lib.hid hgood
            clear hk0 hbad hgood
            go_wp2
            ((refine wp_region_ext (by kernel_rfl) (by kernel_rfl) ?_); (repeat (any_goals (first | go_big_quiet_step ((go_at_call 91; exact quiet_ext (hC _))) | (refine wpQuiet_step (fun K hK => ?_); go_simp; split <;> (refine hK _ ?_; clear hK K)) | quiet_step ((go_at_call 91; exact quiet_ext (hC _)))))); (all_goals (refine wpQuiet_nil ?_; rintro _ ⟨z, rfl⟩; have hb' := z.h; generalize z.w = w1 at hb' ⊢; clear z; (first | (have hb2 := bstep hb' hb hb.size; clear hb' hcb hfb hz1 hz2 hz3 hz4 hb; have hb := hb2; clear hb2) | (have hb := hb'; clear hb')); obtain ⟨hcb, hfb, hz1, hz2, hz3, hz4⟩ := bcell hb; (try simp only [World.size_alloc, World.size_setCell, World.size_drew, Nat.lt_add_one_iff, Nat.add_assoc, Nat.reduceAdd] at hz1 hz2 hz3 hz4))))
            all_goals go_wp2
            have hb1 : Below w.heap.size w w1 := bstep hb hbl hbl.size
            clear h0 h1 h2 h3 h4 g0 hbr
            go_loopw [4] (fun i wq => ∃ m : Nat, m ≤ k ∧ i = .int .i64 m ∧ Below w.heap.size w wq ∧ Hid (∀ j, j < m → x4 ≤ 0 ∨ (l.getD j default).f ≠ x4)) (fun i _ => k - (intOf i).toNat)
            case atStart => exact ⟨0, Nat.zero_le _, rfl, hb1, Lib.hid (fun j hj => absurd hj (by omega))⟩
            case round =>
              obtain ⟨m, hm, rfl, hbq, hmm⟩ := hrel
              by_cases hmk : m < k
              · have e4 : wr.cell? ⟨b, off + k * 5 + 4, none⟩ = some (.int .i64 x4) := by rw [hbq.cell (by exact hbw), (HC.out k hlt).2.2.2.2, HP.out.1]
                have em : wr.cell? ⟨b, off + m * 5 + 4, none⟩ = some (.int .i64 (l.getD m default).f) := by rw [hbq.cell (by exact hbw), (HC.out m (by omega)).2.2.2.2]
                generalize hfm : (l.getD m default).f = fm at em
                have HF := Lib.hid hfm
                clear hfm
                have hbr : b < wr.heap.size := Nat.lt_of_lt_of_le hbw hbq.size
                have hmn : m < n := by omega
                by_cases hx4 : 0 < x4
                · by_cases hfx : fm = x4
                  · have hfx' : (fm == x4) = true := by simpa using hfx
                    go_wp2
                    ((refine wp_region_ext (by kernel_rfl) (by kernel_rfl) ?_); (repeat (any_goals (first | go_big_quiet_step (fail) | (refine wpQuiet_step (fun K hK => ?_); go_simp; split <;> (refine hK _ ?_; clear hK K)) | quiet_step (fail)))); (all_goals (refine wpQuiet_nil ?_; rintro _ ⟨z, rfl⟩; have hb' := z.h; generalize z.w = w1 at hb' ⊢; clear z; (first | (have hb2 := bstep hb' hb hb.size; clear hb' hcb hfb hz1 hz2 hz3 hz4 hb; have hb := hb2; clear hb2) | (have hb := hb'; clear hb')); obtain ⟨hcb, hfb, hz1, hz2, hz3, hz4⟩ := bcell hb; (try simp only [World.size_alloc, World.size_setCell, World.size_drew, Nat.lt_add_one_iff, Nat.add_assoc, Nat.reduceAdd] at hz1 hz2 hz3 hz4))))
                    all_goals go_wp2
                    all_goals go_ret
                    all_goals exact ⟨ret_bool (jobsB_false (hL.out.symm ▸ hlt) (jobAtB_3 (by rw [HP.out.1]; exact hx4) (by rw [HP.out.1]; exact firedBefore_true hmk (by rw [HF.out]; exact hfx)))).symm, bstep hb hbq hbq.size⟩
                  · have hfx' : (fm == x4) = false := by simpa using hfx
                    go_wp2
                    ((refine wp_region_ext (by kernel_rfl) (by kernel_rfl) ?_); (repeat (any_goals (first | go_big_quiet_step (fail) | (refine wpQuiet_step (fun K hK => ?_); go_simp; split <;> (refine hK _ ?_; clear hK K)) | quiet_step (fail)))); (all_goals (refine wpQuiet_nil ?_; rintro _ ⟨z, rfl⟩; have hb' := z.h; generalize z.w = w1 at hb' ⊢; clear z; (first | (have hb2 := bstep hb' hb hb.size; clear hb' hcb hfb hz1 hz2 hz3 hz4 hb; have hb := hb2; clear hb2) | (have hb := hb'; clear hb')); obtain ⟨hcb, hfb, hz1, hz2, hz3, hz4⟩ := bcell hb; (try simp only [World.size_alloc, World.size_setCell, World.size_drew, Nat.lt_add_one_iff, Nat.add_assoc, Nat.reduceAdd] at hz1 hz2 hz3 hz4))))
                    all_goals go_wp2
                    all_goals exact ⟨⟨m + 1, by omega, by go_num, bstep hb hbq hbq.size, Lib.hid (fun j hj => by
                      rcases Nat.lt_or_ge j m with h1 | h1
                      · exact hmm.out j h1
                      · obtain rfl : j = m := by omega
                        exact .inr (by rw [HF.out]; exact hfx))⟩, by simp [intOf]; omega⟩
                · have hx4' : x4 ≤ 0 := by omega
                  clear hx4
                  go_wp2
                  ((refine wp_region_ext (by kernel_rfl) (by kernel_rfl) ?_); (repeat (any_goals (first | go_big_quiet_step (fail) | (refine wpQuiet_step (fun K hK => ?_); go_simp; split <;> (refine hK _ ?_; clear hK K)) | quiet_step (fail)))); (all_goals (refine wpQuiet_nil ?_; rintro _ ⟨z, rfl⟩; have hb' := z.h; generalize z.w = w1 at hb' ⊢; clear z; (first | (have hb2 := bstep hb' hb hb.size; clear hb' hcb hfb hz1 hz2 hz3 hz4 hb; have hb := hb2; clear hb2) | (have hb := hb'; clear hb')); obtain ⟨hcb, hfb, hz1, hz2, hz3, hz4⟩ := bcell hb; (try simp only [World.size_alloc, World.size_setCell, World.size_drew, Nat.lt_add_one_iff, Nat.add_assoc, Nat.reduceAdd] at hz1 hz2 hz3 hz4))))
                  all_goals go_wp2
                  all_goals exact ⟨⟨m + 1, by omega, by go_num, bstep hb hbq hbq.size, Lib.hid (fun j hj => .inl hx4')⟩, by simp [intOf]; omega⟩
              · have hmk' : m = k := by omega
                subst hmk'
                go_wp2
                refine ⟨⟨m + 1, by omega, by go_num, hbq, upto_succ hall.out (jobAtB_4 (by rw [HP.out.1]; exact HJ.out) (by rw [HP.out.1, HP.out.2]; exact HG.out) ?_)⟩, by simp [intOf]; omega⟩
                rw [HP.out.1]
                by_cases hx4 : x4 ≤ 0
                · exact .inl hx4
                · exact .inr (firedBefore_false fun j hj => (hmm.out j hj).resolve_left hx4)
          · have hk0' : (0 : Int) < (k : Int) := by omega
            have hxy : y0 < x0 := by omega
            have hd : decide (x0 ≤ y0) = false := decide_eq_false (by omega)
            have HG := Lib.hid hgood
            clear hbad hgood
            go_wp2
            ((refine wp_region_ext (by kernel_rfl) (by kernel_rfl) ?_); (repeat (any_goals (first | go_big_quiet_step ((go_at_call 91; exact quiet_ext (hC _))) | (refine wpQuiet_step (fun K hK => ?_); go_simp; split <;> (refine hK _ ?_; clear hK K)) | quiet_step ((go_at_call 91; exact quiet_ext (hC _)))))); (all_goals (refine wpQuiet_nil ?_; rintro _ ⟨z, rfl⟩; have hb' := z.h; generalize z.w = w1 at hb' ⊢; clear z; (first | (have hb2 := bstep hb' hb hb.size; clear hb' hcb hfb hz1 hz2 hz3 hz4 hb; have hb := hb2; clear hb2) | (have hb := hb'; clear hb')); obtain ⟨hcb, hfb, hz1, hz2, hz3, hz4⟩ := bcell hb; (try simp only [World.size_alloc, World.size_setCell, World.size_drew, Nat.lt_add_one_iff, Nat.add_assoc, Nat.reduceAdd] at hz1 hz2 hz3 hz4))))
            all_goals go_wp2
            have hb1 : Below w.heap.size w w1 := bstep hb hbl hbl.size
            clear h0 h1 h2 h3 h4 g0 hbr
            go_loopw [4] (fun i wq => ∃ m : Nat, m ≤ k ∧ i = .int .i64 m ∧ Below w.heap.size w wq ∧ Hid (∀ j, j < m → x4 ≤ 0 ∨ (l.getD j default).f ≠ x4)) (fun i _ => k - (intOf i).toNat)
            case atStart => exact ⟨0, Nat.zero_le _, rfl, hb1, Lib.hid (fun j hj => absurd hj (by omega))⟩
            case round =>
              obtain ⟨m, hm, rfl, hbq, hmm⟩ := hrel
              by_cases hmk : m < k
              · have e4 : wr.cell? ⟨b, off + k * 5 + 4, none⟩ = some (.int .i64 x4) := by rw [hbq.cell (by exact hbw), (HC.out k hlt).2.2.2.2, HP.out.1]
                have em : wr.cell? ⟨b, off + m * 5 + 4, none⟩ = some (.int .i64 (l.getD m default).f) := by rw [hbq.cell (by exact hbw), (HC.out m (by omega)).2.2.2.2]
                generalize hfm : (l.getD m default).f = fm at em
                have HF := Lib.hid hfm
                clear hfm
                have hbr : b < wr.heap.size := Nat.lt_of_lt_of_le hbw hbq.size
                have hmn : m < n := by omega
                by_cases hx4 : 0 < x4
                · by_cases hfx : fm = x4
                  · have hfx' : (fm == x4) = true := by simpa using hfx
                    go_wp2
                    ((refine wp_region_ext (by kernel_rfl) (by kernel_rfl) ?_); (repeat (any_goals (first | go_big_quiet_step (fail) | (refine wpQuiet_step (fun K hK => ?_); go_simp; split <;> (refine hK _ ?_; clear hK K)) | quiet_step (fail)))); (all_goals (refine wpQuiet_nil ?_; rintro _ ⟨z, rfl⟩; have hb' := z.h; generalize z.w = w1 at hb' ⊢; clear z; (first | (have hb2 := bstep hb' hb hb.size; clear hb' hcb hfb hz1 hz2 hz3 hz4 hb; have hb := hb2; clear hb2) | (have hb := hb'; clear hb')); obtain ⟨hcb, hfb, hz1, hz2, hz3, hz4⟩ := bcell hb; (try simp only [World.size_alloc, World.size_setCell, World.size_drew, Nat.lt_add_one_iff, Nat.add_assoc, Nat.reduceAdd] at hz1 hz2 hz3 hz4))))
                    all_goals go_wp2
                    all_goals go_ret
                    all_goals exact ⟨ret_bool (jobsB_false (hL.out.symm ▸ hlt) (jobAtB_3 (by rw [HP.out.1]; exact hx4) (by rw [HP.out.1]; exact firedBefore_true hmk (by rw [HF.out]; exact hfx)))).symm, bstep hb hbq hbq.size⟩
                  · have hfx' : (fm == x4) = false := by simpa using hfx
                    go_wp2
                    ((refine wp_region_ext (by kernel_rfl) (by kernel_rfl) ?_); (repeat (any_goals (first | go_big_quiet_step (fail) | (refine wpQuiet_step (fun K hK => ?_); go_simp; split <;> (refine hK _ ?_; clear hK K)) | quiet_step (fail)))); (all_goals (refine wpQuiet_nil ?_; rintro _ ⟨z, rfl⟩; have hb' := z.h; generalize z.w = w1 at hb' ⊢; clear z; (first | (have hb2 := bstep hb' hb hb.size; clear hb' hcb hfb hz1 hz2 hz3 hz4 hb; have hb := hb2; clear hb2) | (have hb := hb'; clear hb')); obtain ⟨hcb, hfb, hz1, hz2, hz3, hz4⟩ := bcell hb; (try simp only [World.size_alloc, World.size_setCell, World.size_drew, Nat.lt_add_one_iff, Nat.add_assoc, Nat.reduceAdd] at hz1 hz2 hz3 hz4))))
                    all_goals go_wp2
                    all_goals exact ⟨⟨m + 1, by omega, by go_num, bstep hb hbq hbq.size, Lib.hid (fun j hj => by
                      rcases Nat.lt_or_ge j m with h1 | h1
                      · exact hmm.out j h1
                      · obtain rfl : j = m := by omega
                        exact .inr (by rw [HF.out]; exact hfx))⟩, by simp [intOf]; omega⟩
                · have hx4' : x4 ≤ 0 := by omega
                  clear hx4
                  go_wp2
                  ((refine wp_region_ext (by kernel_rfl) (by kernel_rfl) ?_); (repeat (any_goals (first | go_big_quiet_step (fail) | (refine wpQuiet_step (fun K hK => ?_); go_simp; split <;> (refine hK _ ?_; clear hK K)) | quiet_step (fail)))); (all_goals (refine wpQuiet_nil ?_; rintro _ ⟨z, rfl⟩; have hb' := z.h; generalize z.w = w1 at hb' ⊢; clear z; (first | (have hb2 := bstep hb' hb hb.size; clear hb' hcb hfb hz1 hz2 hz3 hz4 hb; have hb := hb2; clear hb2) | (have hb := hb'; clear hb')); obtain ⟨hcb, hfb, hz1, hz2, hz3, hz4⟩ := bcell hb; (try simp only [World.size_alloc, World.size_setCell, World.size_drew, Nat.lt_add_one_iff, Nat.add_assoc, Nat.reduceAdd] at hz1 hz2 hz3 hz4))))
                  all_goals go_wp2
                  all_goals exact ⟨⟨m + 1, by omega, by go_num, bstep hb hbq hbq.size, Lib.hid (fun j hj => .inl hx4')⟩, by simp [intOf]; omega⟩
              · have hmk' : m = k := by omega
                subst hmk'
                go_wp2
                refine ⟨⟨m + 1, by omega, by go_num, hbq, upto_succ hall.out (jobAtB_4 (by rw [HP.out.1]; exact HJ.out) (by rw [HP.out.1, HP.out.2]; exact HG.out) ?_)⟩, by simp [intOf]; omega⟩
                rw [HP.out.1]
                by_cases hx4 : x4 ≤ 0
                · exact .inl hx4
                · exact .inr (firedBefore_false fun j hj => (hmm.out j hj).resolve_left hx4)
      · have hj' : jobB x0 x1 x2 x3 x4 = false := by simpa using hj
        have hC : ∀ w0, Calls Try.prog 91 #[.agg #[.int .i64 x0, .int .i64 x1, .int .i64 x2, .int .i64 x3, .int .i64 x4]] w0 fun e' w' => e' = .returned (.bool false) ∧ Below w0.heap.size w0 w' := fun w0 => by
          have := specJobOk_any x0 x1 x2 x3 x4 w0
          rwa [hj'] at this
        have HJ := Lib.hid hj'
        clear hj hj'
        go_wp2
        ((refine wp_region_ext (by kernel_rfl) (by kernel_rfl) ?_); (repeat (any_goals (first | go_big_quiet_step ((go_at_call 91; exact quiet_ext (hC _))) | (refine wpQuiet_step (fun K hK => ?_); go_simp; split <;> (refine hK _ ?_; clear hK K)) | quiet_step ((go_at_call 91; exact quiet_ext (hC _)))))); (all_goals (refine wpQuiet_nil ?_; rintro _ ⟨z, rfl⟩; have hb' := z.h; generalize z.w = w1 at hb' ⊢; clear z; (first | (have hb2 := bstep hb' hb hb.size; clear hb' hcb hfb hz1 hz2 hz3 hz4 hb; have hb := hb2; clear hb2) | (have hb := hb'; clear hb')); obtain ⟨hcb, hfb, hz1, hz2, hz3, hz4⟩ := bcell hb; (try simp only [World.size_alloc, World.size_setCell, World.size_drew, Nat.lt_add_one_iff, Nat.add_assoc, Nat.reduceAdd] at hz1 hz2 hz3 hz4))))
        all_goals go_wp2
        all_goals go_ret
        all_goals exact ⟨ret_bool (jobsB_false (hL.out.symm ▸ hlt) (jobAtB_1 (by rw [HP.out.1]; exact HJ.out))).symm, bstep hb hbl hbl.size⟩
    · have hkn : k = n := by omega
      subst hkn
      go_wp2
      go_ret
      exact ⟨ret_bool (jobsB_true (by have := hL.out; omega) (hL.out.symm ▸ hall.out)).symm, hbl⟩
end Go.Proofs.Ytgpllffiahccjaa

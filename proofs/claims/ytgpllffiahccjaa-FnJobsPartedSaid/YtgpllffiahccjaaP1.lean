/- Pair lists: PairsOk, the program's and the reference's. -/
import Derived.Test.YtgpllffiahccjaaA1
import Derived.Test.YtgpllffiahccjaaFlatS
namespace Go.Proofs.Ytgpllffiahccjaa
set_option linter.unusedSimpArgs false
set_option linter.unusedVariables false
attribute [local go_sem] n_lt2 n_lt3 n_lt4 n_le2 n_le3
open Go.RowKit

structure Pr where
  k : Int
  v : Int
instance : Inhabited Pr := ⟨⟨0, 0⟩⟩
/-- A pair list, its numbers one behind the other. -/
def PR (l : List Pr) : List Int := l.flatMap fun p => [p.k, p.v]
theorem PR_len (l : List Pr) : (PR l).length = l.length * 2 := flat_len _ 2 l (fun _ _ => rfl)
theorem PR_get0 (l : List Pr) (i : Nat) (h : i < l.length) : (PR l).getD (i * 2) 0 = (l.getD i default).k := by
  have := flat_getD (fun p : Pr => [p.k, p.v]) 2 l (fun _ _ => rfl) i 0 h (by decide)
  simpa [PR, List.getD, h] using this
theorem PR_get1 (l : List Pr) (i : Nat) (h : i < l.length) : (PR l).getD (i * 2 + 1) 0 = (l.getD i default).v := by
  have := flat_getD (fun p : Pr => [p.k, p.v]) 2 l (fun _ _ => rfl) i 1 h (by decide)
  simpa [PR, List.getD, h] using this
theorem PR_append (a b : List Pr) : PR (a ++ b) = PR a ++ PR b := by simp [PR]
theorem PR_of : ∀ (n : Nat) (zs : List Int), zs.length = n * 2 → ∃ l : List Pr, l.length = n ∧ PR l = zs
  | 0, zs, h => ⟨[], rfl, by simpa [PR] using (List.eq_nil_of_length_eq_zero (by omega)).symm⟩
  | n + 1, [], h => by simp at h
  | n + 1, [_], h => by simp at h; omega
  | n + 1, a :: b :: zs, h => by
    obtain ⟨l, hl, he⟩ := PR_of n zs (by simp at h; omega)
    exact ⟨⟨a, b⟩ :: l, by simp [hl], by rw [← he]; rfl⟩
theorem PR_inj {a b : List Pr} (h : PR a = PR b) : a = b := by
  have hl : a.length = b.length := by
    have := congrArg List.length h
    rw [PR_len, PR_len] at this
    omega
  apply List.ext_getElem hl
  intro i h1 h2
  have e0 := PR_get0 a i h1
  have e1 := PR_get1 a i h1
  rw [h, PR_get0 b i h2] at e0
  rw [h, PR_get1 b i h2] at e1
  simp only [List.getD, List.getElem?_eq_getElem h1, List.getElem?_eq_getElem h2, Option.getD_some] at e0 e1
  cases ha : a[i]; cases hb : b[i]
  rw [ha, hb] at e0 e1
  simp only at e0 e1
  rw [e0, e1]
theorem sl_pairs {w : World} {A : Option Addr} {n : Nat} {l : List Pr} (h : Sl w 2 A n (PR l)) (hn : 0 < n) : ∃ b off, A = some ⟨b, off, none⟩ ∧ b < w.heap.size ∧
    ∀ i, i < n → w.cell? ⟨b, off + i * 2, none⟩ = some (.int .i64 (l.getD i default).k) ∧ w.cell? ⟨b, off + i * 2 + 1, none⟩ = some (.int .i64 (l.getD i default).v) := by
  have hl : l.length = n := by
    have := h.len
    rw [PR_len] at this
    omega
  obtain ⟨b, off, hA, hb, hc⟩ := h.at_ hn
  refine ⟨b, off, hA, hb, fun i hi => ⟨?_, ?_⟩⟩
  · rw [hc (i * 2) (by omega), PR_get0 l i (by omega)]
  · rw [Nat.add_assoc, hc (i * 2 + 1) (by omega), PR_get1 l i (by omega)]

def pairAt (l : List Pr) (i : Nat) : Bool := inB (l.getD i default).k 0 9 && (inB (l.getD i default).v 0 999 && (decide (i = 0) || decide ((l.getD (i-1) default).k < (l.getD i default).k)))
def pairsB (l : List Pr) : Bool := (List.range l.length).all (pairAt l)
theorem pairAt_eq {l : List Pr} {i : Nat} {x y x0 y0 : Int} (h : l.getD i default = ⟨x, y⟩) (h0 : l.getD (i - 1) default = ⟨x0, y0⟩) : pairAt l i = (inB x 0 9 && (inB y 0 999 && (decide (i = 0) || decide (x0 < x)))) := by
  unfold pairAt; rw [h, h0]
/-- A valid list has its keys one above the other: at most ten. -/
theorem pairs_key {l : List Pr} {m : Nat} (h : ∀ j, j < m → pairAt l j = true) : ∀ i, i < m → (i : Int) ≤ (l.getD i default).k ∧ (l.getD i default).k ≤ 9
  | 0, hi => by
    have := h 0 hi
    simp only [pairAt, Bool.and_eq_true, inB_iff] at this
    exact ⟨by simpa using this.1.1, this.1.2⟩
  | i + 1, hi => by
    have h1 := pairs_key h i (by omega)
    have := h (i + 1) hi
    simp only [pairAt, Bool.and_eq_true, Bool.or_eq_true, inB_iff, decide_eq_true_eq, Nat.add_sub_cancel] at this
    have h3 : (l.getD i default).k < (l.getD (i + 1) default).k := by
      rcases this.2.2 with h0 | h0
      · omega
      · exact h0
    exact ⟨by omega, this.1.2⟩
theorem pairsB_all {l : List Pr} (h : pairsB l = true) : ∀ j, j < l.length → pairAt l j = true := fun j hj => List.all_eq_true.1 h j (List.mem_range.2 hj)
theorem pairsB_len {l : List Pr} (h : pairsB l = true) : l.length ≤ 10 := by
  rcases Nat.lt_or_ge 10 l.length with h1 | h1
  · have := pairs_key (pairsB_all h) 10 h1
    omega
  · exact h1

attribute [local go_sem] Ext.cell Ext.frozen

set_option maxHeartbeats 400000 in
theorem pairsOk_any (A : Option Addr) (n cap : Nat) (l : List Pr) (w : World) (hS : Sl w 2 A n (PR l)) (hl : l.length = n) (hn : n ≤ maxLen) :
    Calls Try.prog 44 #[.slice A n cap] w fun e' w' => e' = .returned (.bool (pairsB l)) ∧ Below w.heap.size w w' := by
  have hL := Lib.hid hl
  have HS := Lib.hid hS
  clear hl hS
  unfold maxLen at hn
  go_enter Try.func44, Try.ntmps44
  go_wp2
  go_loopw [7] (fun i wr => ∃ k : Nat, k ≤ n ∧ i = .int .i64 k ∧ Below w.heap.size w wr ∧ Hid (∀ j, j < k → pairAt l j = true)) (fun i _ => n - (intOf i).toNat)
  case atStart => exact ⟨0, Nat.zero_le _, rfl, Below.refl _ _, fun j hj => absurd hj (by omega)⟩
  case round =>
    obtain ⟨k, hk, rfl, hbl, hall⟩ := hrel
    by_cases hlt : k < n
    · obtain ⟨b, off, rfl, hb, hcell⟩ := sl_pairs HS.out (by omega)
      have h0 := (hcell k hlt).1
      have h1 := (hcell k hlt).2
      have h2 := (hcell (k - 1) (by omega)).1
      clear hcell
      rw [← hbl.cell (by exact hb)] at h0 h1 h2
      generalize hp : l.getD k default = p at h0 h1
      generalize hp0 : l.getD (k - 1) default = p0 at h2
      obtain ⟨x, y⟩ := p
      obtain ⟨x0, y0⟩ := p0
      simp only at h0 h1 h2
      have H := Lib.hid (pairAt_eq hp hp0)
      clear hp hp0
      have hbr : b < wr.heap.size := Nat.lt_of_lt_of_le hb hbl.size
      go_wp2
      ((refine wp_region_ext (by kernel_rfl) (by kernel_rfl) ?_); (repeat (any_goals (first | go_big_quiet_step (first | (go_at_call 97; exact quiet_ext_same (keyOk_any _ _)) | (go_at_call 98; exact quiet_ext_same (valueOk_any _ _))) | (refine wpQuiet_step (fun K hK => ?_); go_simp; split <;> (refine hK _ ?_; clear hK K)) | quiet_step (first | (go_at_call 97; exact quiet_ext_same (keyOk_any _ _)) | (go_at_call 98; exact quiet_ext_same (valueOk_any _ _)))))); (all_goals (refine wpQuiet_nil ?_; rintro _ ⟨z, rfl⟩; have hb' := z.h; generalize z.w = w1 at hb' ⊢; clear z; (first | (have hb2 := bstep hb' hb hb.size; clear hb' hcb hfb hz1 hz2 hz3 hz4 hb; have hb := hb2; clear hb2) | (have hb := hb'; clear hb')); obtain ⟨hcb, hfb, hz1, hz2, hz3, hz4⟩ := bcell hb; (try simp only [World.size_alloc, World.size_setCell, World.size_drew, Nat.lt_add_one_iff, Nat.add_assoc, Nat.reduceAdd] at hz1 hz2 hz3 hz4))))
      all_goals go_wp2
      all_goals have hfr : Below w.heap.size w w1 := bstep hb (hbl.alloc hbl.size _) (by have := hbl.size; simp; omega)
      all_goals first
        | exact ⟨⟨k + 1, by omega, by go_num, hfr, upto_succ hall.out (by rw [H.out]; simp [*] <;> omega)⟩, by simp [intOf]; omega⟩
        | (go_ret
           have hf : pairAt l k = false := by rw [H.out]; simp [*] <;> omega
           exact ⟨ret_bool (a := false) (all_range_false (hL.out.symm ▸ hlt) hf).symm, hfr⟩)
    · have hkn : k = n := by omega
      subst hkn
      go_wp2
      go_ret
      exact ⟨ret_bool (a := true) (all_range_true (hL.out.symm ▸ hall.out)).symm, hbl⟩
def rightB (a b : Int) : Bool := inB a 0 9 && inB b 0 999
set_option maxHeartbeats 400000 in
theorem l14Right_any (a b : Int) (w : World) :
    Calls Try.prog 82 #[.agg #[.int .i64 a, .int .i64 b]] w fun e' w' => e' = .returned (.bool (rightB a b)) ∧ Below w.heap.size w w' := by
  go_enter Try.func82, Try.ntmps82
  go_wp2_with ((go_at_call 74; refine (l1In_any _ _ _ _).mono ?_; rintro e w' ⟨rfl, rfl⟩))
  all_goals (go_ret; exact ⟨ret_bool (by unfold rightB; (first | rfl | (simp [*]; done) | (subst_vars; simp [*]; done) | (simp_all; done))), by (repeat' (first | (with_reducible exact Below.refl _ _) | (with_reducible assumption) | (with_reducible refine Below.alloc ?_ ?_ _) | (with_reducible refine Below.drew ?_) | (with_reducible refine Below.setCell ?_ ?_ _) | (with_reducible refine bstep (by assumption) ?_ ?_) | (with_reducible exact Nat.le_refl _) | omega | (simp [*]; done) | (simp [*]; omega)))⟩)
set_option maxHeartbeats 400000 in
theorem specPairsOk_any (A : Option Addr) (n cap : Nat) (l : List Pr) (w : World) (hS : Sl w 2 A n (PR l)) (hl : l.length = n) (hn : n ≤ maxLen) :
    Calls Try.prog 27 #[.slice A n cap] w fun e' w' => e' = .returned (.bool (pairsB l)) ∧ Below w.heap.size w w' := by
  unfold maxLen at hn
  by_cases h10 : 10 < n
  · have hv : pairsB l = false := by
      rw [← Bool.not_eq_true]
      intro h
      have := pairsB_len h
      omega
    have h10' : (10 : Int) < (n : Int) := by omega
    clear hS hl
    go_enter Try.func27, Try.ntmps27
    go_wp2
    go_ret
    exact ⟨ret_bool hv.symm, Below.refl _ _⟩
  have h10' : (n : Int) ≤ 10 := by omega
  have hL := Lib.hid hl
  have HS := Lib.hid hS
  clear hl hS h10
  go_enter Try.func27, Try.ntmps27
  go_wp2
  go_loopw [3] (fun i wr => ∃ k : Nat, k ≤ n ∧ i = .int .i64 k ∧ Below w.heap.size w wr ∧ Hid (∀ j, j < k → pairAt l j = true)) (fun i _ => n - (intOf i).toNat)
  case atStart => exact ⟨0, Nat.zero_le _, rfl, Below.refl _ _, fun j hj => absurd hj (by omega)⟩
  case round =>
    obtain ⟨k, hk, rfl, hbl, hall⟩ := hrel
    by_cases hlt : k < n
    · obtain ⟨b, off, rfl, hb, hcell⟩ := sl_pairs HS.out (by omega)
      have h0 := (hcell k hlt).1
      have h1 := (hcell k hlt).2
      have h2 := (hcell (k - 1) (by omega)).1
      clear hcell
      rw [← hbl.cell (by exact hb)] at h0 h1 h2
      generalize hp : l.getD k default = p at h0 h1
      generalize hp0 : l.getD (k - 1) default = p0 at h2
      obtain ⟨x, y⟩ := p
      obtain ⟨x0, y0⟩ := p0
      simp only at h0 h1 h2
      have H := Lib.hid ((pairAt_eq hp hp0).trans (show _ = (rightB x y && (decide (k = 0) || decide (x0 < x))) by unfold rightB; rw [Bool.and_assoc]))
      clear hp hp0
      have hbr : b < wr.heap.size := Nat.lt_of_lt_of_le hb hbl.size
      go_wp2
      ((refine wp_region_ext (by kernel_rfl) (by kernel_rfl) ?_); (repeat (any_goals (first | go_big_quiet_step ((go_at_call 82; exact quiet_ext (l14Right_any _ _ _))) | (refine wpQuiet_step (fun K hK => ?_); go_simp; split <;> (refine hK _ ?_; clear hK K)) | quiet_step ((go_at_call 82; exact quiet_ext (l14Right_any _ _ _)))))); (all_goals (refine wpQuiet_nil ?_; rintro _ ⟨z, rfl⟩; have hb' := z.h; generalize z.w = w1 at hb' ⊢; clear z; (first | (have hb2 := bstep hb' hb hb.size; clear hb' hcb hfb hz1 hz2 hz3 hz4 hb; have hb := hb2; clear hb2) | (have hb := hb'; clear hb')); obtain ⟨hcb, hfb, hz1, hz2, hz3, hz4⟩ := bcell hb; (try simp only [World.size_alloc, World.size_setCell, World.size_drew, Nat.lt_add_one_iff, Nat.add_assoc, Nat.reduceAdd] at hz1 hz2 hz3 hz4))))
      all_goals go_wp2
      all_goals have hfr : Below w.heap.size w w1 := bstep hb hbl hbl.size
      all_goals first
        | exact ⟨⟨k + 1, by omega, by go_num, hfr, upto_succ hall.out (by rw [H.out]; simp [*] <;> omega)⟩, by simp [intOf]; omega⟩
        | (go_ret
           have hf : pairAt l k = false := by rw [H.out]; simp [*] <;> omega
           exact ⟨ret_bool (a := false) (all_range_false (hL.out.symm ▸ hlt) hf).symm, hfr⟩)
    · have hkn : k = n := by omega
      subst hkn
      go_wp2
      go_ret
      exact ⟨ret_bool (a := true) (all_range_true (hL.out.symm ▸ hall.out)).symm, hbl⟩
end Go.Proofs.Ytgpllffiahccjaa

/- Plain laws: what Put lays can be read back and cut out again; the row of a pair list leads back to it. No program in sight. -/
import Derived.Test.YtgpllffiahccjaaPutL
import Derived.Test.YtgpllffiahccjaaP2
import Derived.Test.YtgpllffiahccjaaP5
import Derived.Test.YtgpllffiahccjaaP10
import Derived.Test.YtgpllffiahccjaaRP
import Derived.Test.YtgpllffiahccjaaP6
namespace Go.Proofs.Ytgpllffiahccjaa
set_option linter.unusedSimpArgs false
set_option linter.unusedVariables false
attribute [local go_sem] n_lt2 n_lt3 n_lt4 n_le2 n_le3
open Go.RowKit
noncomputable instance : DecidableEq Pr := Classical.typeDecidableEq Pr
theorem pairs_right {l : List Pr} (h : pairsB l = true) : ∀ p ∈ l, rightB p.k p.v = true := fun p hp => by
  obtain ⟨i, hi, rfl⟩ := List.getElem_of_mem hp
  have := pairsB_all h i hi
  simp only [List.getD, List.getElem?_eq_getElem hi, Option.getD_some, pairAt, Bool.and_eq_true] at this
  unfold rightB
  rw [this.1, this.2.1]
  rfl
theorem pairs_mk {l : List Pr} (h : l.Pairwise (fun p q => p.k < q.k)) (hr : ∀ p ∈ l, rightB p.k p.v = true) : pairsB l = true := by
  refine all_range_true (fun i hi => ?_)
  have h1 := hr l[i] (List.getElem_mem hi)
  unfold rightB at h1
  simp only [Bool.and_eq_true] at h1
  unfold pairAt
  have e1 : l.getD i default = l[i] := by simp [List.getD, hi]
  rw [e1, h1.1, h1.2]
  by_cases h0 : i = 0
  · simp [h0]
  · have e2 : l.getD (i - 1) default = l[i - 1] := by simp [List.getD, show i - 1 < l.length by omega]
    have := List.pairwise_iff_getElem.1 h (i - 1) i (by omega) hi (by omega)
    rw [e2, decide_eq_true this]
    simp
theorem putR_yes {l : List Pr} {key v : Int} {z : List Pr} (h : putR l key v = (z, true)) : pairsB l = true ∧ rightB key v = true ∧ z = putL l key v := by
  unfold putR at h
  split at h
  · rename_i h1
    split at h
    · rename_i h2
      injection h with h3 h4
      exact ⟨h1, h2, h3.symm⟩
    · injection h with h3 h4; cases h4
  · injection h with h3 h4; cases h4
theorem put_ok {l : List Pr} {key v : Int} (h : pairsB l = true) (hr : rightB key v = true) : pairsB (putL l key v) = true :=
  pairs_mk (putL_lt key v (pairs_lt h)) (fun p hp => by
    rcases putL_mem hp with rfl | hp
    · exact hr
    · exact pairs_right h p hp)
theorem put_val {l : List Pr} {key v : Int} (h : pairsB l = true) (hr : rightB key v = true) : valueAtB (putL l key v) key = (v, true) := by
  unfold valueAtB
  rw [if_pos (put_ok h hr), valAt_look, putL_look, if_pos rfl]
theorem unUpto_one {a b : List Pr} {key : Int} (h : ∀ k : Nat, (k : Int) ≠ key → valAt a k = valAt b k) : ∀ n : Nat, unUpto a b n = [] ∨ (unUpto a b n = [key] ∧ key < n)
  | 0 => .inl rfl
  | n + 1 => by
    by_cases hn : (n : Int) = key
    · by_cases hv : valAt a n = valAt b n
      · rw [unUpto_same hv]
        rcases unUpto_one h n with h1 | h1
        · exact .inl h1
        · exact .inr ⟨h1.1, by omega⟩
      · rw [unUpto_more hv]
        rcases unUpto_one h n with h1 | h1
        · exact .inr ⟨by rw [h1, hn]; rfl, by omega⟩
        · omega
    · rw [unUpto_same (h n hn)]
      rcases unUpto_one h n with h1 | h1
      · exact .inl h1
      · exact .inr ⟨h1.1, by omega⟩
theorem put_unlike {l : List Pr} {key v : Int} : (unlikeL l (putL l key v)).length ≤ 1 := by
  unfold unlikeL
  split
  · rcases unUpto_one (a := l) (b := putL l key v) (key := key) (fun k hk => by rw [valAt_look, valAt_look, putL_look, if_neg hk]) 10 with h1 | h1
    · rw [h1]; simp
    · rw [h1.1]; simp
  · simp
theorem put_mem (l : List Pr) (key v : Int) : ⟨key, v⟩ ∈ putL l key v := by
  have := putL_look l key v key
  rw [if_pos rfl] at this
  exact (look_key this).2
theorem cut_len {z : List Pr} {key : Int} (h : pairsB z = true) (hm : ∃ p ∈ z, p.k = key) : (cutL z key).length + 1 = z.length := by
  rw [cutL_erase key h]
  have hlt : keyIx z key < z.length := by
    obtain ⟨p, hp, he⟩ := hm
    exact List.findIdx_lt_length_of_exists ⟨p, hp, by simpa using he⟩
  rw [List.length_eraseIdx, if_pos hlt]
  omega
theorem cut_ok {z : List Pr} {key : Int} (h : pairsB z = true) : pairsB (cutL z key) = true :=
  pairs_mk ((pairs_lt h).filter _) (fun p hp => pairs_right h p (List.mem_filter.1 hp).1)
theorem cut_gone {z : List Pr} {key : Int} (h : pairsB z = true) : valueAtB (cutL z key) key = (0, false) := by
  unfold valueAtB
  rw [if_pos (cut_ok h), valAt_look, look_none (fun p hp => by simpa using (List.mem_filter.1 hp).2)]
theorem put_cut {l : List Pr} {key v : Int} (h : pairsB l = true) (hr : rightB key v = true) : cutR (putL l key v) key = (cutL (putL l key v) key, true) := by
  unfold cutR
  have := cut_len (key := key) (put_ok h hr) ⟨_, put_mem l key v, rfl⟩
  rw [if_pos (put_ok h hr), decide_eq_true (by omega)]

/-! PairsBack -/
theorem rows_back {l : List Pr} (h : pairsB l = true) : rowPairsR (pairsRowL l) = (l, true) := by
  refine rowPairsR_yes ?_ h
  unfold pairsRowL
  rw [if_pos h]
theorem unUpto_nil {a b : List Pr} : ∀ n : Nat, (unUpto a b n).length = 0 → ∀ k : Nat, k < n → valAt a k = valAt b k
  | 0, _, k, hk => by omega
  | n + 1, h, k, hk => by
    by_cases hv : valAt a n = valAt b n
    · rw [unUpto_same hv] at h
      rcases (by omega : k < n ∨ k = n) with h1 | h1
      · exact unUpto_nil n h k h1
      · subst h1; exact hv
    · rw [unUpto_more hv] at h
      simp at h
theorem look_of_val {a b : List Pr} {k : Int} (h : valAt a k = valAt b k) : look a k = look b k := by
  rw [valAt_look, valAt_look] at h
  cases ha : look a k with
  | none =>
    rw [ha] at h
    cases hb : look b k with
    | none => rfl
    | some q => rw [hb] at h; injection h with _ h2; cases h2
  | some p =>
    rw [ha] at h
    cases hb : look b k with
    | none => rw [hb] at h; injection h with _ h2; cases h2
    | some q =>
      rw [hb] at h
      have h1 := (look_key ha).1
      have h2 := (look_key hb).1
      obtain ⟨pk, pv⟩ := p
      obtain ⟨qk, qv⟩ := q
      simp only at h1 h2 h ⊢
      injection h with h3 _
      rw [h1, h2, h3]
theorem fm_congr {α β : Type} {f g : α → Option β} : ∀ l : List α, (∀ x ∈ l, f x = g x) → l.filterMap f = l.filterMap g
  | [], _ => rfl
  | x :: l, h => by
    rw [List.filterMap_cons, List.filterMap_cons, h x (by simp), fm_congr l (fun y hy => h y (by simp [hy]))]
theorem unlike_eq {a b : List Pr} (ha : pairsB a = true) (hb : pairsB b = true) : decide ((unlikeL a b).length = 0) = decide (a = b) := by
  by_cases h : a = b
  · subst h
    rw [decide_eq_true rfl]
    unfold unlikeL
    rw [if_pos ⟨ha, hb⟩]
    rcases unUpto_one (a := a) (b := a) (key := -1) (fun _ _ => rfl) 10 with h1 | h1
    · rw [h1]; rfl
    · have : ∀ n, unUpto a a n = [] := fun n => by
        induction n with
        | zero => rfl
        | succ n ih => rw [unUpto_same rfl, ih]
      rw [this]; rfl
  · rw [decide_eq_false h]
    refine decide_eq_false (fun h0 => h ?_)
    unfold unlikeL at h0
    rw [if_pos ⟨ha, hb⟩] at h0
    have hv := unUpto_nil 10 h0
    have ca := canon 10 0 a (pairs_lt ha) (fun p hp => by have := pairs_rng ha p hp; omega)
    have cb := canon 10 0 b (pairs_lt hb) (fun p hp => by have := pairs_rng hb p hp; omega)
    rw [← ca, ← cb]
    refine fm_congr _ (fun j hj => ?_)
    rw [Int.zero_add]
    exact look_of_val (hv j (List.mem_range.1 hj))
theorem same_eq {a b : List Pr} (ha : pairsB a = true) (hb : pairsB b = true) : samePairsB a b = decide (a = b) := by
  unfold samePairsB
  rw [ha, hb]
  by_cases h : a = b
  · subst h; simp [eqL]
  · simp only [Bool.true_and, decide_eq_false h]
    exact eqL_ne (fun he => h (PR_inj he))
theorem rows_eq {a b : List Pr} (ha : pairsB a = true) (hb : pairsB b = true) : eqL (pairsRowL a) (pairsRowL b) = decide (a = b) := by
  unfold pairsRowL
  rw [if_pos ha, if_pos hb]
  by_cases h : a = b
  · subst h; simp [eqL]
  · rw [decide_eq_false h]
    exact eqL_ne (fun he => h (PR_inj (by injection he)))
theorem unlike_no {a b : List Pr} (h : ¬ (pairsB a = true ∧ pairsB b = true)) : unlikeL a b = [] := by unfold unlikeL; rw [if_neg h]
theorem same_no {a b : List Pr} (h : ¬ (pairsB a = true ∧ pairsB b = true)) : samePairsB a b = false := by
  unfold samePairsB
  cases ha : pairsB a <;> cases hb : pairsB b <;> simp_all
end Go.Proofs.Ytgpllffiahccjaa

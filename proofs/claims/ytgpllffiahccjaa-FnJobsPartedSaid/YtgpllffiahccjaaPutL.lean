/- Put: the plain law: listing the keys from 0 to 9 is putting the pair at its place. No program in sight. -/
import Derived.Test.YtgpllffiahccjaaP8
namespace Go.Proofs.Ytgpllffiahccjaa
set_option linter.unusedSimpArgs false
set_option linter.unusedVariables false
attribute [local go_sem] n_lt2 n_lt3 n_lt4 n_le2 n_le3
open Go.RowKit

theorem pairs_lt {l : List Pr} (h : pairsB l = true) : l.Pairwise (fun p q => p.k < q.k) := by
  rw [List.pairwise_iff_getElem]
  intro i j hi hj hij
  have := pairs_up h (j - i - 1) i (by omega)
  rw [show i + (j - i - 1) + 1 = j by omega] at this
  simpa only [List.getD, List.getElem?_eq_getElem hi, List.getElem?_eq_getElem hj, Option.getD_some] using this
theorem pairs_rng {l : List Pr} (h : pairsB l = true) : ∀ p ∈ l, 0 ≤ p.k ∧ p.k ≤ 9 := fun p hp => by
  obtain ⟨i, hi, rfl⟩ := List.getElem_of_mem hp
  have := pairs_key (pairsB_all h) i hi
  simp only [List.getD, List.getElem?_eq_getElem hi, Option.getD_some] at this
  omega
def look (l : List Pr) (key : Int) : Option Pr := l.find? (fun p => decide (p.k = key))
theorem look_cons (p : Pr) (l : List Pr) (key : Int) : look (p :: l) key = if p.k = key then some p else look l key := by
  unfold look
  rw [List.find?_cons]
  by_cases h : p.k = key <;> simp [h]
theorem look_key {l : List Pr} {key : Int} {p : Pr} (h : look l key = some p) : p.k = key ∧ p ∈ l := by
  unfold look at h
  exact ⟨by simpa using List.find?_some h, List.mem_of_find?_eq_some h⟩
theorem look_none {l : List Pr} {key : Int} (h : ∀ p ∈ l, p.k ≠ key) : look l key = none := by
  unfold look
  rw [List.find?_eq_none]
  intro p hp
  simpa using h p hp
theorem valAt_look (l : List Pr) (key : Int) : valAt l key = match look l key with | some p => (p.v, true) | none => (0, false) := by
  induction l with
  | nil => rfl
  | cons p l ih =>
    rw [look_cons]
    by_cases h : p.k = key
    · have : keyIx (p :: l) key = 0 := by simp [keyIx, List.findIdx_cons, h]
      simp [valAt, this, h]
    · have h1 : keyIx (p :: l) key = keyIx l key + 1 := by simp [keyIx, List.findIdx_cons, h]
      rw [if_neg h, ← ih]
      simp [valAt, h1]
theorem canon : ∀ (m : Nat) (a : Int) (l : List Pr), l.Pairwise (fun p q => p.k < q.k) → (∀ p ∈ l, a ≤ p.k ∧ p.k < a + m) → (List.range m).filterMap (fun j : Nat => look l (a + j)) = l
  | 0, a, l, _, h => by
    match l with
    | [] => rfl
    | p :: l => have := h p (by simp); omega
  | m + 1, a, l, hs, h => by
    have hstep : ∀ t : List Pr, (List.range m).filterMap (fun j : Nat => look t (a + (j + 1 : Nat))) = (List.range m).filterMap (fun j : Nat => look t (a + 1 + j)) := fun t => by
      congr 1
      funext j
      congr 1
      omega
    rw [List.range_succ_eq_map, List.filterMap_cons, List.filterMap_map]
    rw [show ((fun j : Nat => look l (a + j)) ∘ Nat.succ) = (fun j : Nat => look l (a + (j + 1 : Nat))) from rfl]
    match l with
    | [] =>
      rw [look_none (by simp), hstep]
      exact canon m (a + 1) [] List.Pairwise.nil (by simp)
    | p :: t =>
      rw [List.pairwise_cons] at hs
      by_cases hp : p.k = a
      · rw [look_cons, if_pos (by omega)]
        simp only
        congr 1
        have e : ∀ j : Nat, look (p :: t) (a + (j + 1 : Nat)) = look t (a + 1 + j) := fun j => by
          rw [look_cons, if_neg (by omega)]
          congr 1
          omega
        simp only [e]
        exact canon m (a + 1) t hs.2 (fun q hq => by
          have h1 := hs.1 q hq
          have h2 := h q (by simp [hq])
          omega)
      · have h0 := h p (by simp)
        rw [look_none (fun q hq => by
          rcases List.mem_cons.1 hq with rfl | hq
          · omega
          · have := hs.1 q hq
            omega), hstep]
        exact canon m (a + 1) (p :: t) (List.pairwise_cons.2 hs) (fun q hq => by
          have h2 := h q hq
          rcases List.mem_cons.1 hq with rfl | hq
          · omega
          · have := hs.1 q hq
            omega)

/-- The pair put at its place. -/
def putL : List Pr → Int → Int → List Pr
  | [], key, v => [⟨key, v⟩]
  | p :: t, key, v => if p.k < key then p :: putL t key v else if p.k = key then ⟨key, v⟩ :: t else ⟨key, v⟩ :: p :: t
theorem putL_look (l : List Pr) (key v k : Int) : look (putL l key v) k = if k = key then some ⟨key, v⟩ else look l k := by
  induction l with
  | nil =>
    rw [putL, look_cons]
    by_cases h : k = key
    · simp [h]
    · rw [if_neg (by simpa using Ne.symm h), if_neg h]
  | cons p t ih =>
    rw [putL]
    split
    · rename_i h1
      rw [look_cons, ih, look_cons]
      by_cases h : k = key
      · subst h
        rw [if_neg (by omega), if_pos rfl, if_pos rfl]
      · rw [if_neg h, if_neg h]
    · split
      · rename_i h1 h2
        rw [look_cons, look_cons]
        by_cases h : k = key
        · subst h; simp
        · rw [if_neg (by simpa using Ne.symm h), if_neg h, if_neg (by omega)]
      · rw [look_cons, look_cons]
        by_cases h : k = key
        · subst h; simp
        · rw [if_neg (by simpa using Ne.symm h), if_neg h]
theorem putL_mem {l : List Pr} {key v : Int} {q : Pr} (h : q ∈ putL l key v) : q = ⟨key, v⟩ ∨ q ∈ l := by
  induction l with
  | nil => rw [putL] at h; simpa using h
  | cons p t ih =>
    rw [putL] at h
    split at h
    · rcases List.mem_cons.1 h with rfl | h
      · exact .inr (by simp)
      · rcases ih h with h | h
        · exact .inl h
        · exact .inr (by simp [h])
    · split at h
      · rcases List.mem_cons.1 h with rfl | h
        · exact .inl rfl
        · exact .inr (by simp [h])
      · rcases List.mem_cons.1 h with rfl | h
        · exact .inl rfl
        · exact .inr h
theorem putL_lt {l : List Pr} (key v : Int) (h : l.Pairwise (fun p q => p.k < q.k)) : (putL l key v).Pairwise (fun p q => p.k < q.k) := by
  induction l with
  | nil => simp [putL]
  | cons p t ih =>
    rw [List.pairwise_cons] at h
    rw [putL]
    split
    · rename_i h1
      rw [List.pairwise_cons]
      refine ⟨fun q hq => ?_, ih h.2⟩
      rcases putL_mem hq with rfl | hq
      · exact h1
      · exact h.1 q hq
    · split
      · rename_i h1 h2
        rw [List.pairwise_cons]
        exact ⟨fun q hq => by have := h.1 q hq; show key < q.k; omega, h.2⟩
      · rename_i h1 h2
        rw [List.pairwise_cons, List.pairwise_cons]
        refine ⟨fun q hq => ?_, h⟩
        rcases List.mem_cons.1 hq with rfl | hq
        · show key < q.k; omega
        · have := h.1 q hq; show key < q.k; omega
theorem putL_len (l : List Pr) (key v : Int) : (putL l key v).length ≤ l.length + 1 := by
  induction l with
  | nil => simp [putL]
  | cons p t ih =>
    rw [putL]
    split
    · simpa using ih
    · split <;> simp
theorem putL_set : ∀ (k : Nat) (l : List Pr) (key v : Int), k < l.length → (∀ j, j < k → (l.getD j default).k < key) → (l.getD k default).k = key → putL l key v = l.set k ⟨key, v⟩
  | _, [], _, _, h, _, _ => by simp at h
  | 0, p :: t, key, v, _, _, he => by
    simp only [List.getD_cons_zero] at he
    rw [putL, if_neg (by omega), if_pos he]
    rfl
  | k + 1, p :: t, key, v, h, hj, he => by
    have h0 := hj 0 (by omega)
    simp only [List.getD_cons_zero] at h0
    rw [putL, if_pos h0, putL_set k t key v (by simpa using h) (fun j hjk => by simpa using hj (j + 1) (by omega)) (by simpa using he)]
    rfl
theorem putL_ins : ∀ (k : Nat) (l : List Pr) (key v : Int), k ≤ l.length → (∀ j, j < k → (l.getD j default).k < key) → (k < l.length → key < (l.getD k default).k) → putL l key v = l.take k ++ ⟨key, v⟩ :: l.drop k
  | 0, [], key, v, _, _, _ => rfl
  | 0, p :: t, key, v, _, _, he => by
    have he' := he (by simp)
    simp only [List.getD_cons_zero] at he'
    rw [putL, if_neg (by omega), if_neg (by omega)]
    rfl
  | k + 1, [], key, v, h, _, _ => by simp at h
  | k + 1, p :: t, key, v, h, hj, he => by
    have h0 := hj 0 (by omega)
    simp only [List.getD_cons_zero] at h0
    rw [putL, if_pos h0, putL_ins k t key v (by simpa using h) (fun j hjk => by simpa using hj (j + 1) (by omega)) (fun h' => by simpa using he (by simpa using h'))]
    rfl

/-- What the reference lists. -/
def putG (l : List Pr) (key v : Int) (j : Nat) : Option Pr := if (j : Int) = key then some ⟨j, v⟩ else if (valAt l j).2 = true then some ⟨j, (valAt l j).1⟩ else none
def putTo (l : List Pr) (key v : Int) (k : Nat) : List Pr := (List.range k).filterMap (putG l key v)
theorem putTo_succ (l : List Pr) (key v : Int) (k : Nat) : putTo l key v (k + 1) = putTo l key v k ++ (putG l key v k).toList := by
  unfold putTo
  rw [List.range_succ, List.filterMap_append]
  congr 1
theorem putTo_len (l : List Pr) (key v : Int) (k : Nat) : (putTo l key v k).length ≤ k := by
  unfold putTo
  exact Nat.le_trans (List.length_filterMap_le _ _) (by simp)
theorem putG_look (l : List Pr) (key v : Int) (j : Nat) : putG l key v j = look (putL l key v) (0 + (j : Int)) := by
  rw [putL_look, Int.zero_add]
  unfold putG
  by_cases h : (j : Int) = key
  · rw [if_pos h, if_pos h, h]
  · rw [if_neg h, if_neg h, valAt_look]
    cases hl : look l j with
    | none => simp
    | some p =>
      have := (look_key hl).1
      obtain ⟨k, u⟩ := p
      simp only at this ⊢
      rw [if_pos trivial, this]
theorem putTo_all {l : List Pr} {key v : Int} (h : pairsB l = true) (hk : 0 ≤ key ∧ key ≤ 9) : putTo l key v 10 = putL l key v := by
  have e : putG l key v = fun j : Nat => look (putL l key v) (0 + (j : Int)) := funext (putG_look l key v)
  unfold putTo
  rw [e]
  refine canon 10 0 (putL l key v) (putL_lt key v (pairs_lt h)) (fun p hp => ?_)
  rcases putL_mem hp with rfl | hp
  · show 0 ≤ key ∧ key < 0 + ((10 : Nat) : Int)
    omega
  · have := pairs_rng h p hp
    omega

/-- Put's two results. -/
def putR (l : List Pr) (key v : Int) : List Pr × Bool := if pairsB l = true then (if rightB key v = true then (putL l key v, true) else (l, false)) else ([], false)
theorem putR_len (l : List Pr) (key v : Int) : (putR l key v).1.length ≤ 11 := by
  unfold putR
  split
  · rename_i h
    have h1 := pairsB_len h
    split
    · have := putL_len l key v
      simp only; omega
    · simp only; omega
  · simp
theorem PR_take' (l : List Pr) (k : Nat) : PR (l.take k) = (PR l).take (k * 2) := by
  induction l generalizing k with
  | nil => simp [PR]
  | cons p l ih =>
    cases k with
    | zero => simp [PR]
    | succ k =>
      have := ih k
      rw [List.take_succ_cons, show (k + 1) * 2 = k * 2 + 1 + 1 by omega]
      simp only [PR, List.flatMap_cons, List.cons_append, List.nil_append, List.take_succ_cons] at this ⊢
      rw [this]
theorem PR_drop' (l : List Pr) (k : Nat) : PR (l.drop k) = (PR l).drop (k * 2) := by
  induction l generalizing k with
  | nil => simp [PR]
  | cons p l ih =>
    cases k with
    | zero => simp [PR]
    | succ k =>
      have := ih k
      rw [List.drop_succ_cons, show (k + 1) * 2 = k * 2 + 1 + 1 by omega]
      simp only [PR, List.flatMap_cons, List.cons_append, List.nil_append, List.drop_succ_cons] at this ⊢
      exact this
theorem PR_ins (l : List Pr) (k : Nat) (key v : Int) : PR (l.take k ++ ⟨key, v⟩ :: l.drop k) = (PR l).take (k * 2) ++ [key, v] ++ (PR l).drop (k * 2) := by
  rw [PR_append, PR_take', List.append_assoc]
  congr 1
  show [key, v] ++ PR (l.drop k) = _
  rw [PR_drop']
theorem PR_set_getD (l : List Pr) (k : Nat) (key v : Int) (hk : k < l.length) (he : (l.getD k default).k = key) (t : Nat) (ht : t < l.length * 2) : (PR (l.set k ⟨key, v⟩)).getD t 0 = if t = k * 2 + 1 then v else (PR l).getD t 0 := by
  have hlen : (l.set k ⟨key, v⟩).length = l.length := by simp
  have hi : t / 2 < l.length := by omega
  have hset : ∀ i, i < l.length → (l.set k ⟨key, v⟩).getD i default = if i = k then ⟨key, v⟩ else l.getD i default := fun i hi => by
    by_cases h : i = k
    · subst h; simp [List.getD, hi]
    · simp [List.getD, List.getElem?_set_ne (Ne.symm h), h]
  rcases Nat.mod_two_eq_zero_or_one t with h | h
  · have ht' : t = t / 2 * 2 := by omega
    rw [ht', PR_get0 _ _ (by rw [hlen]; exact hi), PR_get0 _ _ hi, if_neg (by omega), hset _ hi]
    split
    · rename_i h2; rw [h2]; exact he.symm
    · rfl
  · have ht' : t = t / 2 * 2 + 1 := by omega
    rw [ht', PR_get1 _ _ (by rw [hlen]; exact hi), PR_get1 _ _ hi, hset _ hi]
    by_cases h2 : t / 2 = k
    · rw [if_pos h2, if_pos (by omega)]
    · rw [if_neg h2, if_neg (by omega)]
end Go.Proofs.Ytgpllffiahccjaa

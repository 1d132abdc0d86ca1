/- JobAdded, JobFired: the plain laws: listing the Ids from 1 to 20 is putting the job at its place. No program in sight. -/
import Derived.Test.YtgpllffiahccjaaJ4
import Derived.Test.YtgpllffiahccjaaRJS
import Derived.Test.YtgpllffiahccjaaSet
namespace Go.Proofs.Ytgpllffiahccjaa
set_option linter.unusedSimpArgs false
set_option linter.unusedVariables false
attribute [local go_sem] n_lt2 n_lt3 n_lt4 n_le2 n_le3
open Go.RowKit

theorem jobAtB_lt {l : List Jb} {i : Nat} (h : jobAtB l i = true) (hi : 0 < i) : (l.getD (i - 1) default).i < (l.getD i default).i := by
  unfold jobAtB at h
  simp only [Bool.and_eq_true, Bool.or_eq_true, decide_eq_true_eq] at h
  rcases h.2.1 with h0 | h0
  · omega
  · exact h0
theorem jobAtB_ok {l : List Jb} {i : Nat} (h : jobAtB l i = true) : jobOkB (l.getD i default) = true := by
  unfold jobAtB at h
  simp only [Bool.and_eq_true] at h
  exact h.1
theorem jobs_up {l : List Jb} (h : jobsB l = true) : ∀ d i, i + d + 1 < l.length → (l.getD i default).i < (l.getD (i + d + 1) default).i
  | 0, i, hi => by
    have := jobAtB_lt ((jobsB_all h).2 (i + 1) (by omega)) (by omega)
    simpa using this
  | d + 1, i, hi => by
    have h1 := jobs_up h d i (by omega)
    have h2 := jobs_up h 0 (i + d + 1) (by omega)
    exact Int.lt_trans h1 h2
theorem jobs_lt {l : List Jb} (h : jobsB l = true) : l.Pairwise (fun p q => p.i < q.i) := by
  rw [List.pairwise_iff_getElem]
  intro i j hi hj hij
  have := jobs_up h (j - i - 1) i (by omega)
  rw [show i + (j - i - 1) + 1 = j by omega] at this
  simpa only [List.getD, List.getElem?_eq_getElem hi, List.getElem?_eq_getElem hj, Option.getD_some] using this
theorem jobs_rng {l : List Jb} (h : jobsB l = true) : ∀ p ∈ l, 1 ≤ p.i ∧ p.i ≤ 20 := fun p hp => by
  obtain ⟨i, hi, rfl⟩ := List.getElem_of_mem hp
  have := jobAtB_ok ((jobsB_all h).2 i hi)
  simp only [List.getD, List.getElem?_eq_getElem hi, Option.getD_some, jobOkB, jobB, Bool.and_eq_true, inB_iff] at this
  exact this.1
theorem jobIx_at {l : List Jb} {key : Int} {k : Nat} (h : jobsB l = true) (hk : k < l.length) (he : (l.getD k default).i = key) : jobIx l key = k :=
  jobIx_some hk (fun j hj he' => by
    have := jobs_up h (k - j - 1) j (by omega)
    rw [show j + (k - j - 1) + 1 = k by omega] at this
    omega) he
theorem jobIx_hit {l : List Jb} {key : Int} (h : jobIx l key < l.length) : (l.getD (jobIx l key) default).i = key := by
  have := List.findIdx_getElem (p := fun p : Jb => decide (p.i = key)) (w := h)
  simp only [decide_eq_true_eq] at this
  simp only [List.getD, List.getElem?_eq_getElem h, Option.getD_some]
  exact this
theorem firIx_hit {l : List Jb} {x : Int} (h : l.findIdx (fun p => decide (p.f = x)) < l.length) : firedBefore l l.length x = true := by
  have := List.findIdx_getElem (p := fun p : Jb => decide (p.f = x)) (w := h)
  simp only [decide_eq_true_eq] at this
  exact firedBefore_true h (by simp only [List.getD, List.getElem?_eq_getElem h, Option.getD_some]; exact this)
theorem firIx_miss {l : List Jb} {x : Int} (h : ¬ l.findIdx (fun p => decide (p.f = x)) < l.length) : firedBefore l l.length x = false := by
  refine firedBefore_false (fun j hj he => h ?_)
  refine List.findIdx_lt_length_of_exists ⟨l[j], List.getElem_mem hj, ?_⟩
  simp only [List.getD, List.getElem?_eq_getElem hj, Option.getD_some] at he
  simpa using he

def lookJ (l : List Jb) (key : Int) : Option Jb := l.find? (fun p => decide (p.i = key))
theorem lookJ_cons (p : Jb) (l : List Jb) (key : Int) : lookJ (p :: l) key = if p.i = key then some p else lookJ l key := by
  unfold lookJ
  rw [List.find?_cons]
  by_cases h : p.i = key <;> simp [h]
theorem lookJ_key {l : List Jb} {key : Int} {p : Jb} (h : lookJ l key = some p) : p.i = key ∧ p ∈ l := by
  unfold lookJ at h
  exact ⟨by simpa using List.find?_some h, List.mem_of_find?_eq_some h⟩
theorem lookJ_none {l : List Jb} {key : Int} (h : ∀ p ∈ l, p.i ≠ key) : lookJ l key = none := by
  unfold lookJ
  rw [List.find?_eq_none]
  intro p hp
  simpa using h p hp
theorem jobAtV_look (l : List Jb) (key : Int) : jobAtV l key = match lookJ l key with | some p => (p, true) | none => (default, false) := by
  induction l with
  | nil => rfl
  | cons p l ih =>
    rw [lookJ_cons]
    by_cases h : p.i = key
    · have : jobIx (p :: l) key = 0 := by simp [jobIx, List.findIdx_cons, h]
      simp [jobAtV, this, h]
    · have h1 : jobIx (p :: l) key = jobIx l key + 1 := by simp [jobIx, List.findIdx_cons, h]
      rw [if_neg h, ← ih]
      simp [jobAtV, h1]
theorem jobAtV_there {l : List Jb} {key : Int} (h : (jobAtV l key).2 = false) : ∀ p ∈ l, p.i ≠ key := by
  intro p hp he
  unfold jobAtV at h
  rw [if_pos] at h
  · cases h
  · exact List.findIdx_lt_length_of_exists ⟨p, hp, by simpa using he⟩
theorem canonJ : ∀ (m : Nat) (a : Int) (l : List Jb), l.Pairwise (fun p q => p.i < q.i) → (∀ p ∈ l, a ≤ p.i ∧ p.i < a + m) → (List.range m).filterMap (fun j : Nat => lookJ l (a + j)) = l
  | 0, a, l, _, h => by
    match l with
    | [] => rfl
    | p :: l => have := h p (by simp); omega
  | m + 1, a, l, hs, h => by
    have hstep : ∀ t : List Jb, (List.range m).filterMap (fun j : Nat => lookJ t (a + (j + 1 : Nat))) = (List.range m).filterMap (fun j : Nat => lookJ t (a + 1 + j)) := fun t => by
      congr 1
      funext j
      congr 1
      omega
    rw [List.range_succ_eq_map, List.filterMap_cons, List.filterMap_map]
    rw [show ((fun j : Nat => lookJ l (a + j)) ∘ Nat.succ) = (fun j : Nat => lookJ l (a + (j + 1 : Nat))) from rfl]
    match l with
    | [] =>
      rw [lookJ_none (by simp), hstep]
      exact canonJ m (a + 1) [] List.Pairwise.nil (by simp)
    | p :: t =>
      rw [List.pairwise_cons] at hs
      by_cases hp : p.i = a
      · rw [lookJ_cons, if_pos (by omega)]
        simp only
        congr 1
        have e : ∀ j : Nat, lookJ (p :: t) (a + (j + 1 : Nat)) = lookJ t (a + 1 + j) := fun j => by
          rw [lookJ_cons, if_neg (by omega)]
          congr 1
          omega
        simp only [e]
        exact canonJ m (a + 1) t hs.2 (fun q hq => by
          have h1 := hs.1 q hq
          have h2 := h q (by simp [hq])
          omega)
      · have h0 := h p (by simp)
        rw [lookJ_none (fun q hq => by
          rcases List.mem_cons.1 hq with rfl | hq
          · omega
          · have := hs.1 q hq
            omega), hstep]
        exact canonJ m (a + 1) (p :: t) (List.pairwise_cons.2 hs) (fun q hq => by
          have h2 := h q hq
          rcases List.mem_cons.1 hq with rfl | hq
          · omega
          · have := hs.1 q hq
            omega)

/-- The job put at its place. -/
def addL : List Jb → Jb → List Jb
  | [], x => [x]
  | p :: t, x => if p.i < x.i then p :: addL t x else x :: p :: t
theorem addL_look (l : List Jb) (x : Jb) (k : Int) : lookJ (addL l x) k = if k = x.i then some x else lookJ l k := by
  induction l with
  | nil =>
    rw [addL, lookJ_cons]
    by_cases h : k = x.i
    · simp [h]
    · rw [if_neg (by simpa using Ne.symm h), if_neg h]
  | cons p t ih =>
    rw [addL]
    split
    · rename_i h1
      rw [lookJ_cons, ih, lookJ_cons]
      by_cases h : k = x.i
      · rw [if_neg (by omega), if_pos h, if_pos h]
      · rw [if_neg h, if_neg h]
    · rw [lookJ_cons]
      by_cases h : k = x.i
      · rw [if_pos h.symm, if_pos h]
      · rw [if_neg (by simpa using Ne.symm h), if_neg h]
theorem addL_mem {l : List Jb} {x q : Jb} (h : q ∈ addL l x) : q = x ∨ q ∈ l := by
  induction l with
  | nil => rw [addL] at h; simpa using h
  | cons p t ih =>
    rw [addL] at h
    split at h
    · rcases List.mem_cons.1 h with rfl | h
      · exact .inr (by simp)
      · rcases ih h with h | h
        · exact .inl h
        · exact .inr (by simp [h])
    · rcases List.mem_cons.1 h with rfl | h
      · exact .inl rfl
      · exact .inr h
theorem addL_lt {l : List Jb} {x : Jb} (h : l.Pairwise (fun p q => p.i < q.i)) (hx : ∀ p ∈ l, p.i ≠ x.i) : (addL l x).Pairwise (fun p q => p.i < q.i) := by
  induction l with
  | nil => simp [addL]
  | cons p t ih =>
    rw [List.pairwise_cons] at h
    have hp := hx p (by simp)
    rw [addL]
    split
    · rename_i h1
      rw [List.pairwise_cons]
      refine ⟨fun q hq => ?_, ih h.2 (fun q hq => hx q (by simp [hq]))⟩
      rcases addL_mem hq with rfl | hq
      · exact h1
      · exact h.1 q hq
    · rename_i h1
      rw [List.pairwise_cons, List.pairwise_cons]
      refine ⟨fun q hq => ?_, h⟩
      rcases List.mem_cons.1 hq with rfl | hq
      · omega
      · have := h.1 q hq; omega
theorem addL_len (l : List Jb) (x : Jb) : (addL l x).length = l.length + 1 := by
  induction l with
  | nil => simp [addL]
  | cons p t ih =>
    rw [addL]
    split
    · simp [ih]
    · simp
theorem addL_ins : ∀ (k : Nat) (l : List Jb) (x : Jb), k ≤ l.length → (∀ j, j < k → (l.getD j default).i < x.i) → (k < l.length → ¬ (l.getD k default).i < x.i) → addL l x = l.take k ++ x :: l.drop k
  | 0, [], x, _, _, _ => rfl
  | 0, p :: t, x, _, _, he => by
    have he' := he (by simp)
    simp only [List.getD_cons_zero] at he'
    rw [addL, if_neg he']
    rfl
  | k + 1, [], x, h, _, _ => by simp at h
  | k + 1, p :: t, x, h, hj, he => by
    have h0 := hj 0 (by omega)
    simp only [List.getD_cons_zero] at h0
    rw [addL, if_pos h0, addL_ins k t x (by simpa using h) (fun j hjk => by simpa using hj (j + 1) (by omega)) (fun h' => by simpa using he (by simpa using h'))]
    rfl
/-- What the reference lists. -/
def addG (l : List Jb) (x : Jb) (j : Nat) : Option Jb := if (j : Int) + 1 = x.i then some x else if (jobAtV l ((j : Int) + 1)).2 = true then some (jobAtV l ((j : Int) + 1)).1 else none
def addTo (l : List Jb) (x : Jb) (k : Nat) : List Jb := (List.range k).filterMap (addG l x)
theorem addTo_succ (l : List Jb) (x : Jb) (k : Nat) : addTo l x (k + 1) = addTo l x k ++ (addG l x k).toList := by
  unfold addTo
  rw [List.range_succ, List.filterMap_append]
  congr 1
theorem addTo_len (l : List Jb) (x : Jb) (k : Nat) : (addTo l x k).length ≤ k := by
  unfold addTo
  exact Nat.le_trans (List.length_filterMap_le _ _) (by simp)
theorem addG_look (l : List Jb) (x : Jb) (j : Nat) : addG l x j = lookJ (addL l x) (1 + (j : Int)) := by
  rw [addL_look, Int.add_comm 1 (j : Int)]
  unfold addG
  by_cases h : (j : Int) + 1 = x.i
  · rw [if_pos h, if_pos h]
  · rw [if_neg h, if_neg h, jobAtV_look]
    cases hl : lookJ l ((j : Int) + 1) with
    | none => simp
    | some p => simp
theorem addTo_all {l : List Jb} {x : Jb} (h : jobsB l = true) (hk : 1 ≤ x.i ∧ x.i ≤ 20) (hx : ∀ p ∈ l, p.i ≠ x.i) : addTo l x 20 = addL l x := by
  have e : addG l x = fun j : Nat => lookJ (addL l x) (1 + (j : Int)) := funext (addG_look l x)
  unfold addTo
  rw [e]
  refine canonJ 20 1 (addL l x) (addL_lt (jobs_lt h) hx) (fun p hp => ?_)
  rcases addL_mem hp with rfl | hp
  · omega
  · have := jobs_rng h p hp
    omega
def addOk (l : List Jb) (x : Jb) : Bool := jobOkB x && (decide (x.f = 0) && (!(jobAtV l x.i).2 && decide (l.length < 8)))
/-- JobAdded's two results. -/
def addR (l : List Jb) (x : Jb) : List Jb × Bool := if jobsB l = true then (if addOk l x = true then (addL l x, true) else (l, false)) else ([], false)
theorem addR_len (l : List Jb) (x : Jb) : (addR l x).1.length ≤ 9 := by
  unfold addR
  split
  · rename_i h
    have h1 := (jobsB_all h).1
    split
    · simp only [addL_len]; omega
    · simp only; omega
  · simp

/-- JobFired's two results. -/
def firedOk (l : List Jb) (id x : Int) : Bool := decide (jobIx l id < l.length) && (decide ((l.getD (jobIx l id) default).f = 0) && (inB x 1 2000 && !firedBefore l l.length x))
def firedSet (l : List Jb) (k : Nat) (x : Int) : List Jb := l.set k { (l.getD k default) with f := x }
def firedR (l : List Jb) (id x : Int) : List Jb × Bool := if jobsB l = true then (if firedOk l id x = true then (firedSet l (jobIx l id) x, true) else (l, false)) else ([], false)
theorem firedR_len (l : List Jb) (id x : Int) : (firedR l id x).1.length ≤ 9 := by
  unfold firedR
  split
  · rename_i h
    have h1 := (jobsB_all h).1
    split
    · simp only [firedSet, List.length_set]; omega
    · simp only; omega
  · simp
theorem JB_take' (l : List Jb) (k : Nat) : JB (l.take k) = (JB l).take (k * 5) := by
  induction l generalizing k with
  | nil => simp [JB]
  | cons p l ih =>
    cases k with
    | zero => simp [JB]
    | succ k =>
      have := ih k
      rw [List.take_succ_cons, show (k + 1) * 5 = k * 5 + 1 + 1 + 1 + 1 + 1 by omega]
      simp only [JB, List.flatMap_cons, List.cons_append, List.nil_append, List.take_succ_cons] at this ⊢
      rw [this]
theorem JB_drop' (l : List Jb) (k : Nat) : JB (l.drop k) = (JB l).drop (k * 5) := by
  induction l generalizing k with
  | nil => simp [JB]
  | cons p l ih =>
    cases k with
    | zero => simp [JB]
    | succ k =>
      have := ih k
      rw [List.drop_succ_cons, show (k + 1) * 5 = k * 5 + 1 + 1 + 1 + 1 + 1 by omega]
      simp only [JB, List.flatMap_cons, List.cons_append, List.nil_append, List.drop_succ_cons] at this ⊢
      exact this
theorem JB_ins (l : List Jb) (k : Nat) (x : Jb) : JB (l.take k ++ x :: l.drop k) = (JB l).take (k * 5) ++ [x.i, x.d, x.k, x.v, x.f] ++ (JB l).drop (k * 5) := by
  rw [JB_append, JB_take', List.append_assoc]
  congr 1
  show [x.i, x.d, x.k, x.v, x.f] ++ JB (l.drop k) = _
  rw [JB_drop']
theorem JB_fired_getD (l : List Jb) (k : Nat) (v : Int) (hk : k < l.length) (t : Nat) (ht : t < l.length * 5) : (JB (firedSet l k v)).getD t 0 = if t = k * 5 + 4 then v else (JB l).getD t 0 := by
  have hlen : (firedSet l k v).length = l.length := by simp [firedSet]
  have hi : t / 5 < l.length := by omega
  have hset : (firedSet l k v).getD (t / 5) default = if t / 5 = k then { (l.getD k default) with f := v } else l.getD (t / 5) default := by
    unfold firedSet
    by_cases h : t / 5 = k
    · rw [h]; simp [List.getD, hk]
    · rw [if_neg h]; simp [List.getD, List.getElem?_set_ne (Ne.symm h)]
  have ht' : t = t / 5 * 5 + t % 5 := by omega
  have h5 : t % 5 < 5 := Nat.mod_lt _ (by decide)
  have e1 := JB_get (firedSet l k v) (t / 5) (t % 5) (by rw [hlen]; exact hi) h5
  have e2 := JB_get l (t / 5) (t % 5) hi h5
  rw [← ht'] at e1 e2
  rw [e1, e2, hset]
  by_cases h : t / 5 = k
  · rw [if_pos h]
    by_cases h4 : t % 5 = 4
    · rw [if_pos (by omega), h4]; rfl
    · rw [if_neg (by omega), h]
      rcases (by omega : t % 5 = 0 ∨ t % 5 = 1 ∨ t % 5 = 2 ∨ t % 5 = 3) with e | e | e | e <;> rw [e] <;> rfl
  · rw [if_neg h, if_neg (by omega)]
end Go.Proofs.Ytgpllffiahccjaa

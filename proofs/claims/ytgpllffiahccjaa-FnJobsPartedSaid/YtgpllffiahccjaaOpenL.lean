/- OpenJobs, DueJobs, FiredJobs: the plain laws: inserting one behind the other is sorting; picking the least again and again is sorting. No program in sight. -/
import Derived.Test.YtgpllffiahccjaaAddL
namespace Go.Proofs.Ytgpllffiahccjaa
set_option linter.unusedSimpArgs false
set_option linter.unusedVariables false
attribute [local go_sem] n_lt2 n_lt3 n_lt4 n_le2 n_le3
open Go.RowKit

structure Du where
  i : Int
  d : Int
instance : Inhabited Du := ⟨⟨0, 0⟩⟩
def DU (l : List Du) : List Int := l.flatMap fun j => [j.i, j.d]
theorem DU_len (l : List Du) : (DU l).length = l.length * 2 := flat_len _ 2 l (fun _ _ => rfl)
theorem DU_append (a b : List Du) : DU (a ++ b) = DU a ++ DU b := by simp [DU]
theorem DU_get (l : List Du) (i j : Nat) (h : i < l.length) (hj : j < 2) : (DU l).getD (i * 2 + j) 0 = [(l.getD i default).i, (l.getD i default).d].getD j 0 := by
  have := flat_getD (fun j : Du => [j.i, j.d]) 2 l (fun _ _ => rfl) i j h hj
  have e : l.getD i default = l[i] := by simp [List.getD, h]
  rw [e]
  exact this
theorem DU_of : ∀ (n : Nat) (zs : List Int), zs.length = n * 2 → ∃ l : List Du, l.length = n ∧ DU l = zs
  | 0, zs, h => ⟨[], rfl, by simpa [DU] using (List.eq_nil_of_length_eq_zero (by omega)).symm⟩
  | n + 1, a0 :: a1 :: zs, h => by
    obtain ⟨l, hl, he⟩ := DU_of n zs (by simp at h; omega)
    exact ⟨⟨a0, a1⟩ :: l, by simp [hl], by rw [← he]; rfl⟩
  | n + 1, [], h => by simp at h
  | n + 1, [_], h => by simp at h; omega
theorem sl_dues {w : World} {A : Option Addr} {n : Nat} {l : List Du} (h : Sl w 2 A n (DU l)) (hn : 0 < n) : ∃ b off, A = some ⟨b, off, none⟩ ∧ b < w.heap.size ∧
    ∀ i, i < n → w.cell? ⟨b, off + i * 2, none⟩ = some (.int .i64 (l.getD i default).i) ∧ w.cell? ⟨b, off + i * 2 + 1, none⟩ = some (.int .i64 (l.getD i default).d) := by
  have hl : l.length = n := by
    have := h.len
    rw [DU_len] at this
    omega
  obtain ⟨b, off, hA, hb, hc⟩ := h.at_ hn
  have hg : ∀ i, i < n → ∀ j, j < 2 → w.cell? ⟨b, off + i * 2 + j, none⟩ = some (.int .i64 ([(l.getD i default).i, (l.getD i default).d].getD j 0)) := fun i hi j hj => by
    rw [Nat.add_assoc, hc (i * 2 + j) (by omega), DU_get l i j (by omega) hj]
  exact ⟨b, off, hA, hb, fun i hi => ⟨hg i hi 0 (by decide), hg i hi 1 (by decide)⟩⟩

def openJ (j : Jb) : Bool := decide (j.f = 0)
def duOf (j : Jb) : Du := ⟨j.i, j.d⟩
def duLt (a b : Du) : Prop := a.d < b.d ∨ (a.d = b.d ∧ a.i < b.i)
/-- The open jobs, in the list's order. -/
def opens (l : List Jb) : List Du := (l.filter openJ).map duOf
def kInsF (l : List Du) (d : Int) : Nat → Nat
  | 0 => 0
  | k + 1 => if d < (l.getD k default).d then kInsF l d k else k + 1
def kIns (l : List Du) (d : Int) : Nat := kInsF l d l.length
def insDu (l : List Du) (x : Du) : List Du := l.take (kIns l x.d) ++ x :: l.drop (kIns l x.d)
theorem kInsF_le (l : List Du) (d : Int) : ∀ n, kInsF l d n ≤ n
  | 0 => Nat.le_refl _
  | n + 1 => by
    unfold kInsF
    split
    · exact Nat.le_trans (kInsF_le l d n) (Nat.le_succ n)
    · exact Nat.le_refl _
theorem kIns_le (l : List Du) (d : Int) : kIns l d ≤ l.length := kInsF_le l d l.length
theorem kInsF_eq {l : List Du} {d : Int} {k : Nat} : ∀ n, k ≤ n → (∀ j, k ≤ j → j < n → d < (l.getD j default).d) → (0 < k → (l.getD (k - 1) default).d ≤ d) → kInsF l d n = k
  | 0, h, _, _ => by
    have : k = 0 := by omega
    subst this
    rfl
  | n + 1, h, hj, hs => by
    unfold kInsF
    by_cases hk : k = n + 1
    · subst hk
      have := hs (by omega)
      rw [if_neg (by simp only [Nat.add_sub_cancel] at this; omega)]
    · rw [if_pos (hj n (by omega) (by omega))]
      exact kInsF_eq n (by omega) (fun j h1 h2 => hj j h1 (by omega)) hs
theorem kIns_eq {l : List Du} {d : Int} {k : Nat} (h : k ≤ l.length) (hj : ∀ j, k ≤ j → j < l.length → d < (l.getD j default).d) (hs : 0 < k → (l.getD (k - 1) default).d ≤ d) : kIns l d = k := kInsF_eq _ h hj hs
theorem kInsF_spec {l : List Du} {d : Int} : ∀ n, (∀ j, kInsF l d n ≤ j → j < n → d < (l.getD j default).d) ∧ (0 < kInsF l d n → (l.getD (kInsF l d n - 1) default).d ≤ d)
  | 0 => ⟨fun j _ h => absurd h (by omega), fun h => absurd h (by unfold kInsF; omega)⟩
  | n + 1 => by
    unfold kInsF
    by_cases h : d < (l.getD n default).d
    · rw [if_pos h]
      refine ⟨fun j h1 h2 => ?_, (kInsF_spec n).2⟩
      rcases Nat.lt_or_ge j n with h3 | h3
      · exact (kInsF_spec n).1 j h1 h3
      · obtain rfl : j = n := by omega
        exact h
    · rw [if_neg h]
      exact ⟨fun j h1 h2 => absurd h1 (by omega), fun _ => by simp only [Nat.add_sub_cancel]; omega⟩
theorem insDu_perm (l : List Du) (x : Du) : (insDu l x).Perm (l ++ [x]) := by
  unfold insDu
  refine List.Perm.trans (List.perm_middle) ?_
  rw [List.take_append_drop]
  exact (List.perm_append_singleton x l).symm
theorem insDu_len (l : List Du) (x : Du) : (insDu l x).length = l.length + 1 := by
  have := (insDu_perm l x).length_eq
  simpa using this
theorem duLt_le {a b : Du} (h : duLt a b) : a.d ≤ b.d := by unfold duLt at h; omega
theorem duLt_asym {a b : Du} (h : duLt a b) (h' : duLt b a) : a = b := by unfold duLt at h h'; omega
theorem insDu_sorted {l : List Du} {x : Du} (h : l.Pairwise duLt) (hx : ∀ y ∈ l, y.i < x.i) : (insDu l x).Pairwise duLt := by
  have hs := @kInsF_spec l x.d l.length
  have hle := kIns_le l x.d
  unfold insDu
  change (∀ j, kIns l x.d ≤ j → j < l.length → x.d < (l.getD j default).d) ∧ (0 < kIns l x.d → (l.getD (kIns l x.d - 1) default).d ≤ x.d) at hs
  generalize kIns l x.d = k at hs hle
  have hp := List.pairwise_iff_getElem.1 h
  rw [List.pairwise_append]
  refine ⟨h.sublist (List.take_sublist _ _), ?_, ?_⟩
  · rw [List.pairwise_cons]
    refine ⟨fun y hy => ?_, h.sublist (List.drop_sublist _ _)⟩
    obtain ⟨j, hj, rfl⟩ := List.getElem_of_mem hy
    rw [List.length_drop] at hj
    rw [List.getElem_drop]
    have := hs.1 (k + j) (by omega) (by omega)
    simp only [List.getD, List.getElem?_eq_getElem (show k + j < l.length by omega), Option.getD_some] at this
    exact .inl this
  · intro a ha b hb
    obtain ⟨i, hi, rfl⟩ := List.getElem_of_mem ha
    rw [List.length_take] at hi
    rw [List.getElem_take]
    have hik : i < k := by omega
    have hil : i < l.length := by omega
    have h1 : l[i].d ≤ x.d := by
      have h2 := hs.2 (by omega)
      simp only [List.getD, List.getElem?_eq_getElem (show k - 1 < l.length by omega), Option.getD_some] at h2
      by_cases h3 : i = k - 1
      · subst h3; exact h2
      · have := duLt_le (hp i (k - 1) hil (by omega) (by omega))
        omega
    rw [List.mem_cons] at hb
    rcases hb with rfl | hb
    · have := hx l[i] (List.getElem_mem hil)
      unfold duLt
      omega
    · obtain ⟨j, hj, rfl⟩ := List.getElem_of_mem hb
      rw [List.length_drop] at hj
      rw [List.getElem_drop]
      exact hp i (k + j) hil (by omega) (by omega)
/-- What the reference's loop has laid behind k jobs. -/
def openTo (l : List Jb) : Nat → List Du
  | 0 => []
  | k + 1 => if openJ (l.getD k default) = true then insDu (openTo l k) (duOf (l.getD k default)) else openTo l k
def openL (l : List Jb) : List Du := openTo l l.length
theorem openTo_len (l : List Jb) : ∀ k, (openTo l k).length ≤ k
  | 0 => Nat.le_refl _
  | k + 1 => by
    have := openTo_len l k
    unfold openTo
    split
    · rw [insDu_len]; omega
    · omega
theorem take_succ_getD {l : List Jb} {k : Nat} (h : k < l.length) : l.take (k + 1) = l.take k ++ [l.getD k default] := by
  rw [List.take_succ_eq_append_getElem h]
  simp [List.getD, h]
theorem opens_snoc (l : List Jb) (j : Jb) : opens (l ++ [j]) = if openJ j = true then opens l ++ [duOf j] else opens l := by
  unfold opens
  rw [List.filter_append, List.map_append]
  by_cases h : openJ j = true <;> simp [List.filter_cons, h]
theorem openTo_perm {l : List Jb} : ∀ k, k ≤ l.length → (openTo l k).Perm (opens (l.take k))
  | 0, _ => by simp [openTo, opens]
  | k + 1, h => by
    rw [take_succ_getD (by omega), opens_snoc]
    unfold openTo
    have ih := openTo_perm (l := l) k (by omega)
    split
    · exact (insDu_perm _ _).trans (ih.append_right _)
    · exact ih
theorem openTo_sorted {l : List Jb} (hl : l.Pairwise (fun p q => p.i < q.i)) : ∀ k, k ≤ l.length → (openTo l k).Pairwise duLt
  | 0, _ => by simp [openTo]
  | k + 1, h => by
    have ih := openTo_sorted hl k (by omega)
    unfold openTo
    split
    · refine insDu_sorted ih (fun y hy => ?_)
      have hy' := (openTo_perm k (by omega)).mem_iff.1 hy
      obtain ⟨p, hp, rfl⟩ := List.mem_map.1 hy'
      have hp1 := (List.mem_filter.1 hp).1
      obtain ⟨i, hi, rfl⟩ := List.getElem_of_mem hp1
      rw [List.length_take] at hi
      rw [List.getElem_take]
      have := List.pairwise_iff_getElem.1 hl i k (by omega) (by omega) (by omega)
      simpa [duOf, List.getD, show k < l.length by omega] using this
    · exact ih
theorem openL_perm (l : List Jb) : (openL l).Perm (opens l) := by
  have := openTo_perm (l := l) l.length (Nat.le_refl _)
  rwa [List.take_length] at this
theorem openL_sorted {l : List Jb} (h : jobsB l = true) : (openL l).Pairwise duLt := openTo_sorted (jobs_lt h) _ (Nat.le_refl _)
theorem openL_len (l : List Jb) : (openL l).length ≤ l.length := openTo_len l l.length
/-- Any sorted order of the open jobs is the reference's. -/
theorem openL_of {l : List Jb} (h : jobsB l = true) {s : List Du} (hp : s.Perm (opens l)) (hs : s.Pairwise (fun a b => ¬ duLt b a)) : s = openL l := by
  have hne : s.Pairwise (fun a b => a.i ≠ b.i) := by
    refine List.Pairwise.perm ?_ hp.symm (fun h => Ne.symm h)
    unfold opens
    rw [List.pairwise_map]
    refine ((jobs_lt h).filter _).imp ?_
    intro a b hab
    show a.i ≠ b.i
    omega
  refine List.Perm.eq_of_pairwise (le := duLt) (fun a b _ _ h1 h2 => duLt_asym h1 h2) ?_ (openL_sorted h) (hp.trans (openL_perm l).symm)
  refine List.Pairwise.imp₂ ?_ hs hne
  intro a b h1 h2
  unfold duLt at h1 ⊢
  omega

/-- DueJobs: of those the ones that are due. -/
def dueTo (s : List Du) (time : Int) : Nat → List Int
  | 0 => []
  | k + 1 => if (s.getD k default).d ≤ time then dueTo s time k ++ [(s.getD k default).i] else dueTo s time k
def dueL (l : List Jb) (time : Int) : List Int := dueTo (openL l) time (openL l).length
theorem dueTo_len (s : List Du) (time : Int) : ∀ k, (dueTo s time k).length ≤ k
  | 0 => Nat.le_refl _
  | k + 1 => by
    have := dueTo_len s time k
    unfold dueTo
    split
    · rw [List.length_append]; simp; omega
    · omega

/-- FiredJobs. -/
def firedJ (j : Jb) : Bool := !openJ j
def fireds (l : List Jb) : List Jb := l.filter firedJ
def firedS (l : List Jb) : List Jb := (fireds l).mergeSort (fun a b => decide (a.f ≤ b.f))
def firL (l : List Jb) : List Int := (firedS l).map (·.i)
theorem firedS_perm (l : List Jb) : (firedS l).Perm (fireds l) := List.mergeSort_perm _ _
theorem firedS_len (l : List Jb) : (firedS l).length ≤ l.length := by
  rw [(firedS_perm l).length_eq]
  exact List.length_filter_le _ _
theorem jobs_fired_ne {l : List Jb} (h : jobsB l = true) : (fireds l).Pairwise (fun a b => a.f ≠ b.f) := by
  unfold fireds
  rw [List.pairwise_filter, List.pairwise_iff_getElem]
  intro i j hi hj hij h1 h2 he
  have h3 := (jobsB_all h).2 j hj
  have h4 := jobAtB_ok h3
  unfold jobAtB at h3
  simp only [Bool.and_eq_true, Bool.not_eq_true', Bool.and_eq_false_iff, decide_eq_false_iff_not] at h3
  have e1 : l.getD j default = l[j] := by simp [List.getD, hj]
  have e2 : l.getD i default = l[i] := by simp [List.getD, hi]
  rw [e1] at h3 h4
  have h5 : 0 ≤ l[j].f := by
    simp only [jobOkB, jobB, Bool.and_eq_true, inB_iff] at h4
    exact h4.2.2.2.2.1
  have h6 : l[j].f ≠ 0 := by simpa [firedJ, openJ] using h2
  rcases h3.2.2 with h7 | h7
  · omega
  · rw [firedBefore_true hij (by rw [e2]; exact he)] at h7
    cases h7
theorem firedS_sorted {l : List Jb} (h : jobsB l = true) : (firedS l).Pairwise (fun a b => a.f < b.f) := by
  have h1 : (firedS l).Pairwise (fun a b => decide (a.f ≤ b.f) = true) := List.pairwise_mergeSort (fun a b c h1 h2 => by simp only [decide_eq_true_eq] at *; omega) (fun a b => by simp only [Bool.or_eq_true, decide_eq_true_eq]; omega) _
  have h2 : (firedS l).Pairwise (fun a b => a.f ≠ b.f) := List.Pairwise.perm (jobs_fired_ne h) (firedS_perm l).symm (fun h => Ne.symm h)
  refine List.Pairwise.imp₂ ?_ h1 h2
  intro a b h3 h4
  simp only [decide_eq_true_eq] at h3
  omega
theorem firedS_of {l : List Jb} (h : jobsB l = true) {s : List Jb} (hp : s.Perm (fireds l)) (hs : s.Pairwise (fun a b => ¬ b.f < a.f)) : s = firedS l := by
  have hne : s.Pairwise (fun a b => a.f ≠ b.f) := List.Pairwise.perm (jobs_fired_ne h) hp.symm (fun h => Ne.symm h)
  refine List.Perm.eq_of_pairwise (le := fun a b : Jb => a.f < b.f) (fun a b _ _ h1 h2 => absurd h1 (by omega)) ?_ (firedS_sorted h) (hp.trans (firedS_perm l).symm)
  refine List.Pairwise.imp₂ ?_ hs hne
  intro a b h1 h2
  omega
def lastF (l : List Jb) (k : Nat) : Int := if k = 0 then 0 else ((firedS l).getD (k - 1) default).f
theorem fired_pos {l : List Jb} (h : jobsB l = true) {p : Jb} (hp : p ∈ fireds l) : 0 < p.f := by
  obtain ⟨h1, h2⟩ := List.mem_filter.1 hp
  obtain ⟨j, hj, rfl⟩ := List.getElem_of_mem h1
  have h4 := jobAtB_ok ((jobsB_all h).2 j hj)
  have e1 : l.getD j default = l[j] := by simp [List.getD, hj]
  rw [e1] at h4
  have h6 : l[j].f ≠ 0 := by simpa [firedJ, openJ] using h2
  simp only [jobOkB, jobB, Bool.and_eq_true, inB_iff] at h4
  have := h4.2.2.2.2.1
  omega
/-- Nothing is fired behind the last one: the list is whole. -/
theorem fired_end {l : List Jb} (h : jobsB l = true) {k : Nat} (hk : k ≤ (firedS l).length) (hn : ∀ j, j < l.length → ¬ lastF l k < (l.getD j default).f) : k = (firedS l).length := by
  rcases Nat.lt_or_ge k (firedS l).length with hlt | hge
  · exfalso
    have hm : (firedS l)[k] ∈ fireds l := (firedS_perm l).mem_iff.1 (List.getElem_mem hlt)
    have hpos := fired_pos h hm
    obtain ⟨j, hj, he⟩ := List.getElem_of_mem (List.mem_filter.1 hm).1
    refine hn j hj ?_
    have e1 : l.getD j default = l[j] := by simp [List.getD, hj]
    rw [e1, he]
    unfold lastF
    split
    · exact hpos
    · have := List.pairwise_iff_getElem.1 (firedS_sorted h) (k - 1) k (by omega) hlt (by omega)
      simpa [List.getD, show k - 1 < (firedS l).length by omega] using this
  · omega
/-- The least one behind the last is the next. -/
theorem fired_next {l : List Jb} (h : jobsB l = true) {k b : Nat} (hk : k ≤ (firedS l).length) (hb : b < l.length) (hl : lastF l k < (l.getD b default).f) (hm : ∀ j, j < l.length → lastF l k < (l.getD j default).f → (l.getD b default).f ≤ (l.getD j default).f) :
    k < (firedS l).length ∧ (firedS l).getD k default = l.getD b default := by
  have hlast : 0 ≤ lastF l k := by
    unfold lastF
    split
    · exact Int.le_refl _
    · have h1 : k - 1 < (firedS l).length := by omega
      have := fired_pos h ((firedS_perm l).mem_iff.1 (List.getElem_mem h1))
      simp only [List.getD, List.getElem?_eq_getElem h1, Option.getD_some]
      omega
  have e1 : l.getD b default = l[b] := by simp [List.getD, hb]
  rw [e1] at hl hm ⊢
  have hbm : l[b] ∈ fireds l := List.mem_filter.2 ⟨List.getElem_mem hb, by simp [firedJ, openJ]; omega⟩
  obtain ⟨q, hq, he⟩ := List.getElem_of_mem ((firedS_perm l).mem_iff.2 hbm)
  have hs := List.pairwise_iff_getElem.1 (firedS_sorted h)
  have hkq : k ≤ q := by
    rcases Nat.lt_or_ge q k with h1 | h1
    · exfalso
      unfold lastF at hl
      rw [if_neg (by omega)] at hl
      simp only [List.getD, List.getElem?_eq_getElem (show k - 1 < (firedS l).length by omega), Option.getD_some] at hl
      by_cases h2 : q = k - 1
      · subst h2; rw [he] at hl; omega
      · have := hs q (k - 1) hq (by omega) (by omega)
        rw [he] at this
        omega
    · exact h1
  have hkl : k < (firedS l).length := by omega
  refine ⟨hkl, ?_⟩
  by_cases hqk : q = k
  · subst hqk
    simp [List.getD, hq, he]
  · exfalso
    have h3 := hs k q hkl hq (by omega)
    rw [he] at h3
    have h4 : (firedS l)[k] ∈ fireds l := (firedS_perm l).mem_iff.1 (List.getElem_mem hkl)
    obtain ⟨j, hj, hje⟩ := List.getElem_of_mem (List.mem_filter.1 h4).1
    have e2 : l.getD j default = l[j] := by simp [List.getD, hj]
    have h5 := hm j hj (by
      rw [e2, hje]
      unfold lastF
      split
      · exact fired_pos h h4
      · have := hs (k - 1) k (by omega) hkl (by omega)
        simpa [List.getD, show k - 1 < (firedS l).length by omega] using this)
    rw [e2, hje] at h5
    omega
theorem lastF_succ {l : List Jb} {k : Nat} : lastF l (k + 1) = ((firedS l).getD k default).f := by
  unfold lastF
  simp
end Go.Proofs.Ytgpllffiahccjaa

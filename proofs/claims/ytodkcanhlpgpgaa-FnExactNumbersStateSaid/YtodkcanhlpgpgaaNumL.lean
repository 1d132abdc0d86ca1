/- The plain law of NumbersState: which rows are the numbers of a state. No program in sight. -/
import Derived.Test.YtodkcanhlpgpgaaS5
import Derived.Test.YtodkcanhlpgpgaaRJS
namespace Go.Proofs.Ytodkcanhlpgpgaa
set_option linter.unusedSimpArgs false
set_option linter.unusedVariables false
attribute [local go_sem] n_lt2 n_lt3 n_lt4 n_le2 n_le3
open Go.RowKit
structure Stt where
  i : Int
  t : Int
  p : List Pr
  q : List Jb
  h : Int
  e : Int
  u : Int
def Stt.zero : Stt := ⟨0, 0, [], [], 0, 0, 0⟩
def stOk (s : Stt) : Bool := stateB s.i s.t s.h s.e s.u s.p s.q
def numRow (s : Stt) : List Int := [s.i, s.t] ++ ((s.p.length : Int) :: PR s.p) ++ ((s.q.length : Int) :: JB s.q) ++ [s.h, s.e, s.u]
theorem numRow_len (s : Stt) : (numRow s).length = 7 + 2 * s.p.length + 5 * s.q.length := by
  unfold numRow
  simp only [List.length_append, List.length_cons, List.length_nil, PR_len, JB_len]
  omega
theorem PR_inj' {a b : List Pr} (h : PR a = PR b) : a = b := PR_inj h
theorem numRow_inj {a b : Stt} (h : numRow a = numRow b) : a = b := by
  obtain ⟨ai, at_, ap, aq, ah, ae, au⟩ := a
  obtain ⟨bi, bt, bp, bq, bh, be, bu⟩ := b
  unfold numRow at h
  simp only [List.cons_append, List.nil_append, List.append_assoc] at h
  injection h with h1 h
  injection h with h2 h
  injection h with h3 h
  have h3' : ap.length = bp.length := by omega
  obtain ⟨h4, h⟩ := List.append_inj h (by rw [PR_len, PR_len, h3'])
  injection h with h5 h
  have h5' : aq.length = bq.length := by omega
  obtain ⟨h6, h⟩ := List.append_inj h (by rw [JB_len, JB_len, h5'])
  injection h with h7 h
  injection h with h8 h
  injection h with h9 h
  have h4' := PR_inj h4
  have h6' := JB_inj h6
  subst h1 h2 h4' h6' h7 h8 h9
  rfl
open Classical in
noncomputable def numR (zs : List Int) : Stt × Bool := if h : ∃ s, zs = numRow s ∧ stOk s = true then (h.choose, true) else (Stt.zero, false)
theorem numR_yes {zs : List Int} {s : Stt} (h : zs = numRow s) (hs : stOk s = true) : numR zs = (s, true) := by
  unfold numR
  have he : ∃ s, zs = numRow s ∧ stOk s = true := ⟨s, h, hs⟩
  rw [dif_pos he, numRow_inj (he.choose_spec.1.symm.trans h)]
theorem numR_no {zs : List Int} (h : ∀ s, zs = numRow s → stOk s = false) : numR zs = (Stt.zero, false) := by
  unfold numR
  rw [dif_neg (fun he => by
    obtain ⟨s, h1, h2⟩ := he
    rw [h s h1] at h2
    exact absurd h2 (by decide))]
/-- The row has the shape of a state's numbers, with p pairs and q jobs. -/
structure Shape (zs : List Int) (p q : Nat) : Prop where
  p10 : p ≤ 10
  q8 : q ≤ 8
  len : zs.length = 7 + 2 * p + 5 * q
  hp : zs.getD 2 0 = (p : Int)
  hq : zs.getD (3 + 2 * p) 0 = (q : Int)
theorem stOk_parts {s : Stt} (h : stOk s = true) : s.p.length ≤ 10 ∧ s.q.length ≤ 8 := by
  have := stateB_parts h
  exact ⟨pairsB_len this.1, jobsB_le8 this.2.1⟩
theorem drop_cons {zs : List Int} {k : Nat} (h : k < zs.length) : zs.drop k = zs.getD k 0 :: zs.drop (k + 1) := by
  rw [List.drop_eq_getElem_cons h]
  simp [List.getD, List.getElem?_eq_getElem h]
theorem shape_row {zs : List Int} {p q : Nat} (h : Shape zs p q) : ∃ s : Stt, zs = numRow s ∧ s.p.length = p ∧ s.q.length = q ∧ s.i = zs.getD 0 0 ∧ s.t = zs.getD 1 0 ∧ (zs.drop 3).take (2 * p) = PR s.p ∧ (zs.drop (4 + 2 * p)).take (5 * q) = JB s.q ∧ zs.drop (4 + 2 * p + 5 * q) = [s.h, s.e, s.u] := by
  obtain ⟨h1, h2, hl, hp, hq⟩ := h
  obtain ⟨pl, hpl, hps⟩ := PR_of p ((zs.drop 3).take (2 * p)) (by simp; omega)
  obtain ⟨ql, hql, hqs⟩ := JB_of q ((zs.drop (4 + 2 * p)).take (5 * q)) (by simp; omega)
  obtain ⟨x, y, z, hx⟩ : ∃ x y z, zs.drop (4 + 2 * p + 5 * q) = [x, y, z] := by
    have : (zs.drop (4 + 2 * p + 5 * q)).length = 3 := by simp; omega
    match zs.drop (4 + 2 * p + 5 * q), this with
    | [x, y, z], _ => exact ⟨x, y, z, rfl⟩
  refine ⟨⟨zs.getD 0 0, zs.getD 1 0, pl, ql, x, y, z⟩, ?_, hpl, hql, rfl, rfl, hps.symm, hqs.symm, hx⟩
  unfold numRow
  simp only [hpl, hql]
  have a0 : zs = zs.drop 0 := by simp
  have a3 : zs.drop 3 = PR pl ++ zs.drop (3 + 2 * p) := by
    rw [hps]
    conv => lhs; rw [← List.take_append_drop (2 * p) (zs.drop 3)]
    rw [List.drop_drop]
  have a4 : zs.drop (4 + 2 * p) = JB ql ++ [x, y, z] := by
    rw [hqs, ← hx]
    conv => lhs; rw [← List.take_append_drop (5 * q) (zs.drop (4 + 2 * p))]
    rw [List.drop_drop]
  conv => lhs; rw [a0, drop_cons (by omega : 0 < zs.length), drop_cons (by omega : 0 + 1 < zs.length), drop_cons (by omega : 0 + 1 + 1 < zs.length), show 0 + 1 + 1 + 1 = 3 from rfl, a3, drop_cons (by omega : 3 + 2 * p < zs.length), hq, show 3 + 2 * p + 1 = 4 + 2 * p by omega, a4]
  simp only [Nat.zero_add, Nat.reduceAdd, hp, List.cons_append, List.nil_append, List.append_assoc]
theorem shape_of {s : Stt} (h : stOk s = true) : Shape (numRow s) s.p.length s.q.length := by
  obtain ⟨h1, h2⟩ := stOk_parts h
  refine ⟨h1, h2, numRow_len s, ?_, ?_⟩
  · unfold numRow; simp
  · unfold numRow
    simp only [List.cons_append, List.nil_append, List.append_assoc]
    rw [show 3 + 2 * s.p.length = (PR s.p).length + 1 + 1 + 1 by rw [PR_len]; omega]
    simp [List.getD]
theorem numR_shapeless {zs : List Int} (h : ∀ p q, ¬ Shape zs p q) : numR zs = (Stt.zero, false) := numR_no fun s hs => by
  cases hb : stOk s with
  | false => rfl
  | true =>
    have := shape_of hb
    rw [← hs] at this
    exact absurd this (h _ _)
theorem numR_at {zs : List Int} {s : Stt} (h : zs = numRow s) : numR zs = if stOk s then (s, true) else (Stt.zero, false) := by
  cases hb : stOk s with
  | true => rw [numR_yes h hb]; rfl
  | false =>
    rw [numR_no (fun s' h' => by rw [← numRow_inj (h.symm.trans h')]; exact hb)]
    rfl
theorem numR_len (zs : List Int) : (numR zs).1.p.length ≤ 10 ∧ (numR zs).1.q.length ≤ 8 := by
  by_cases h : ∃ s, zs = numRow s ∧ stOk s = true
  · obtain ⟨s, h1, h2⟩ := h
    rw [numR_yes h1 h2]
    exact stOk_parts h2
  · rw [numR_no (fun s hs => by
      cases hb : stOk s with
      | false => rfl
      | true => exact absurd ⟨s, hs, hb⟩ h)]
    exact ⟨by decide, by decide⟩
end Go.Proofs.Ytodkcanhlpgpgaa

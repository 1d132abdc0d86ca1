/- What HeardAck and HeardValue test and hand back. -/
import Derived.Test.YtckbnfgdjdppfaaC9
import Derived.Test.YtckbnfgdjdppfaaC10
import Derived.Test.YtckbnfgdjdppfaaSAck
namespace Go.Proofs.Ytckbnfgdjdppfaa
set_option linter.unusedSimpArgs false
set_option linter.unusedVariables false
attribute [local go_sem] n_lt2 n_lt3 n_lt4 n_le2 n_le3
open Go.RowKit
attribute [local go_sem] Ext.cell Ext.frozen
def ackB (c q x l : Int) : Bool := inB c 2 5 && (inB q 1 2000 && (inB l q 2000 && (if q < l then decide (x = 0) else inB x 1 2000)))
def valB (c q x h v : Int) : Bool := inB c 2 5 && (inB q 1 2000 && (inB x 0 2000 && foundB h v))
def ackFit (i0 : Int) (wl : List Wt) (gl : List Gt) (t0 c q x l : Int) : Bool := ackB c q x l && (decide (i0 = c) && (decide (pendS wl gl = q) && (decide (¬ (pendW wl gl).k = 4) && decide (t0 < x))))
def valFit (i0 : Int) (wl : List Wt) (gl : List Gt) (t0 c q x h v : Int) : Bool := valB c q x h v && (decide (i0 = c) && (decide (pendS wl gl = q) && (decide ((pendW wl gl).k = 4) && decide (t0 ≤ x))))
/-- The client behind an answer g. -/
def heardR (i0 : Int) (wl : List Wt) (gl : List Gt) (t0 : Int) (fit : Bool) (g : Gt) : Int × List Wt × List Gt × Int :=
  if clientB i0 wl gl t0 = true then (if fit = true then (i0, wl, gl ++ [g], g.x) else (i0, wl, gl, t0)) else (0, [], [], 0)
abbrev RetR (w : World) (r : Int × List Wt × List Gt × Int) : Ending → World → Prop := RetHeard w w.heap.size r.1 r.2.2.2 r.2.1.length (WT r.2.1) r.2.2.1.length (GT r.2.2.1)
theorem heardR_nil {i0 t0 : Int} {wl : List Wt} {gl : List Gt} {fit : Bool} {g : Gt} (h : clientB i0 wl gl t0 = false) : heardR i0 wl gl t0 fit g = (0, [], [], 0) := by unfold heardR; rw [h]; rfl
theorem heardR_no {i0 t0 : Int} {wl : List Wt} {gl : List Gt} {fit : Bool} {g : Gt} (h : clientB i0 wl gl t0 = true) (hf : fit = false) : heardR i0 wl gl t0 fit g = (i0, wl, gl, t0) := by unfold heardR; rw [if_pos h, hf]; rfl
theorem heardR_yes {i0 t0 : Int} {wl : List Wt} {gl : List Gt} {fit : Bool} {g : Gt} (h : clientB i0 wl gl t0 = true) (hf : fit = true) : heardR i0 wl gl t0 fit g = (i0, wl, gl ++ [g], g.x) := by unfold heardR; rw [if_pos h, hf]; rfl
theorem heardR_len (i0 : Int) (wl : List Wt) (gl : List Gt) (t0 : Int) (fit : Bool) (g : Gt) : (heardR i0 wl gl t0 fit g).2.1.length ≤ 12 ∧ (heardR i0 wl gl t0 fit g).2.2.1.length ≤ 13 := by
  unfold heardR
  split
  · rename_i h
    have := clientB_le h
    split
    · simp; omega
    · simp; omega
  · simp
theorem retR_nil {w w' : World} (h : Below w.heap.size w w') : RetR w (0, [], [], 0) (.returned (.agg #[.int .i64 0, .slice none 0 0, .slice none 0 0, .int .i64 0])) w' :=
  ⟨none, 0, none, 0, rfl, Row.nil _ _ _ _, Row.nil _ _ _ _, (fun a b ha => by cases ha), h⟩
theorem ackB_eq (c q x l : Int) : ackB c q x l = (inB c 2 5 && (inB q 1 2000 && (inB l q 2000 && (if l = q then inB x 1 2000 else decide (x = 0))))) := by
  unfold ackB
  cases h : inB l q 2000 with
  | false => simp
  | true =>
    have hq := (inB_iff _ _ _).1 h
    by_cases he : l = q
    · rw [if_pos he, if_neg (by omega)]
    · rw [if_neg he, if_pos (by omega)]
theorem ackB_eq2 (c q x l : Int) : ackB c q x l = (inB c 2 5 && (inB q 1 2000 && (inB l q 2000 && (if l ≤ q then inB x 1 2000 else decide (x = 0))))) := by
  unfold ackB
  by_cases he : l ≤ q
  · rw [if_pos he, if_neg (by omega)]
  · rw [if_neg he, if_pos (by omega)]
theorem ackB_q {c q x l : Int} (h : ackB c q x l = true) : 1 ≤ q := by unfold ackB at h; simp only [Bool.and_eq_true, inB_iff] at h; omega
theorem valB_q {c q x h v : Int} (h : valB c q x h v = true) : 1 ≤ q := by unfold valB at h; simp only [Bool.and_eq_true, inB_iff] at h; omega
set_option maxHeartbeats 2000000 in
theorem ackOk_any (a0 a1 a2 a3 : Int) (w : World) :
    Calls Try.prog 31 #[.agg #[.int .i64 a0, .int .i64 a1, .int .i64 a2, .int .i64 a3]] w fun e' w' => e' = .returned (.bool (ackB a0 a1 a2 a3)) ∧ Below w.heap.size w w' := by
  go_enter Try.func31, Try.ntmps31
  go_wp2_with (first | (go_at_call 39; refine (askerOk_any _ _).mono ?_; rintro e w' ⟨rfl, rfl⟩) | (go_at_call 40; refine (seqOk_any _ _).mono ?_; rintro e w' ⟨rfl, rfl⟩) | (go_at_call 42; refine (indexOk_any _ _).mono ?_; rintro e w' ⟨rfl, rfl⟩) | (go_at_call 36; refine (between_any _ _ _ _).mono ?_; rintro e w' ⟨rfl, rfl⟩) | (go_at_call 41; refine (foundOk_any _ _ _).mono ?_; rintro e w' ⟨rfl, rfl⟩))
  all_goals (go_ret; rw [ackB_eq]; exact ⟨ret_bool (by first | (simp [*, beqI]; done) | (subst_vars; simp [*, beqI]; done) | (simp [*, beqI]; intros; omega) | (simp_all [beqI]; done)), by (repeat' (first | (with_reducible exact Below.refl _ _) | (with_reducible assumption) | (with_reducible refine Below.alloc ?_ ?_ _) | (with_reducible refine Below.drew ?_) | (with_reducible refine Below.setCell ?_ ?_ _) | (with_reducible refine bstep (by assumption) ?_ ?_) | (with_reducible exact Nat.le_refl _) | omega | (simp [*]; done) | (simp [*]; omega)))⟩)
set_option maxHeartbeats 2000000 in
theorem valOk_any (a0 a1 a2 a3 a4 : Int) (w : World) :
    Calls Try.prog 26 #[.agg #[.int .i64 a0, .int .i64 a1, .int .i64 a2, .int .i64 a3, .int .i64 a4]] w fun e' w' => e' = .returned (.bool (valB a0 a1 a2 a3 a4)) ∧ Below w.heap.size w w' := by
  go_enter Try.func26, Try.ntmps26
  go_wp2_with (first | (go_at_call 39; refine (askerOk_any _ _).mono ?_; rintro e w' ⟨rfl, rfl⟩) | (go_at_call 40; refine (seqOk_any _ _).mono ?_; rintro e w' ⟨rfl, rfl⟩) | (go_at_call 42; refine (indexOk_any _ _).mono ?_; rintro e w' ⟨rfl, rfl⟩) | (go_at_call 36; refine (between_any _ _ _ _).mono ?_; rintro e w' ⟨rfl, rfl⟩) | (go_at_call 41; refine (foundOk_any _ _ _).mono ?_; rintro e w' ⟨rfl, rfl⟩))
  all_goals (go_ret; unfold valB; exact ⟨ret_bool (by first | (simp [*, beqI]; done) | (subst_vars; simp [*, beqI]; done) | (simp [*, beqI]; intros; omega) | (simp_all [beqI]; done)), by (repeat' (first | (with_reducible exact Below.refl _ _) | (with_reducible assumption) | (with_reducible refine Below.alloc ?_ ?_ _) | (with_reducible refine Below.drew ?_) | (with_reducible refine Below.setCell ?_ ?_ _) | (with_reducible refine bstep (by assumption) ?_ ?_) | (with_reducible exact Nat.le_refl _) | omega | (simp [*]; done) | (simp [*]; omega)))⟩)
end Go.Proofs.Ytckbnfgdjdppfaa

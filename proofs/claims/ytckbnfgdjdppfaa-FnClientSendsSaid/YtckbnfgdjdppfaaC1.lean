/- Operations, requests, results: their tests, the program's and the reference's. -/
import Derived.Test.YtckbnfgdjdppfaaA1
import Derived.Test.YtckbnfgdjdppfaaFlatS
namespace Go.Proofs.Ytckbnfgdjdppfaa
set_option linter.unusedSimpArgs false
set_option linter.unusedVariables false
attribute [local go_sem] n_lt2 n_lt3 n_lt4 n_le2 n_le3
open Go.RowKit

structure Wt where
  k : Int
  o : Int
  a : Int
  b : Int
  c : Int
  d : Int
  y : Int
instance : Inhabited Wt := ⟨⟨0, 0, 0, 0, 0, 0, 0⟩⟩
def WT (l : List Wt) : List Int := l.flatMap fun j => [j.k, j.o, j.a, j.b, j.c, j.d, j.y]
theorem WT_len (l : List Wt) : (WT l).length = l.length * 7 := flat_len _ 7 l (fun _ _ => rfl)
theorem WT_append (a b : List Wt) : WT (a ++ b) = WT a ++ WT b := by simp [WT]
theorem WT_get (l : List Wt) (i j : Nat) (h : i < l.length) (hj : j < 7) : (WT l).getD (i * 7 + j) 0 = [(l.getD i default).k, (l.getD i default).o, (l.getD i default).a, (l.getD i default).b, (l.getD i default).c, (l.getD i default).d, (l.getD i default).y].getD j 0 := by
  have := flat_getD (fun j : Wt => [j.k, j.o, j.a, j.b, j.c, j.d, j.y]) 7 l (fun _ _ => rfl) i j h hj
  have e : l.getD i default = l[i] := by simp [List.getD, h]
  rw [e]
  exact this
theorem WT_of : ∀ (n : Nat) (zs : List Int), zs.length = n * 7 → ∃ l : List Wt, l.length = n ∧ WT l = zs
  | 0, zs, h => ⟨[], rfl, by simpa [WT] using (List.eq_nil_of_length_eq_zero (by omega)).symm⟩
  | n + 1, a0 :: a1 :: a2 :: a3 :: a4 :: a5 :: a6 :: zs, h => by
    obtain ⟨l, hl, he⟩ := WT_of n zs (by simp at h; omega)
    exact ⟨⟨a0, a1, a2, a3, a4, a5, a6⟩ :: l, by simp [hl], by rw [← he]; rfl⟩
  | n + 1, [], h => by simp at h
  | n + 1, [_], h => by simp at h; omega
  | n + 1, [_, _], h => by simp at h; omega
  | n + 1, [_, _, _], h => by simp at h; omega
  | n + 1, [_, _, _, _], h => by simp at h; omega
  | n + 1, [_, _, _, _, _], h => by simp at h; omega
  | n + 1, [_, _, _, _, _, _], h => by simp at h; omega
theorem sl_wants {w : World} {A : Option Addr} {n : Nat} {l : List Wt} (h : Sl w 7 A n (WT l)) (hn : 0 < n) : ∃ b off, A = some ⟨b, off, none⟩ ∧ b < w.heap.size ∧
    ∀ i, i < n → w.cell? ⟨b, off + i * 7, none⟩ = some (.int .i64 (l.getD i default).k) ∧ w.cell? ⟨b, off + i * 7 + 1, none⟩ = some (.int .i64 (l.getD i default).o) ∧ w.cell? ⟨b, off + i * 7 + 2, none⟩ = some (.int .i64 (l.getD i default).a) ∧ w.cell? ⟨b, off + i * 7 + 3, none⟩ = some (.int .i64 (l.getD i default).b) ∧ w.cell? ⟨b, off + i * 7 + 4, none⟩ = some (.int .i64 (l.getD i default).c) ∧ w.cell? ⟨b, off + i * 7 + 5, none⟩ = some (.int .i64 (l.getD i default).d) ∧ w.cell? ⟨b, off + i * 7 + 6, none⟩ = some (.int .i64 (l.getD i default).y) := by
  have hl : l.length = n := by
    have := h.len
    rw [WT_len] at this
    omega
  obtain ⟨b, off, hA, hb, hc⟩ := h.at_ hn
  have hg : ∀ i, i < n → ∀ j, j < 7 → w.cell? ⟨b, off + i * 7 + j, none⟩ = some (.int .i64 ([(l.getD i default).k, (l.getD i default).o, (l.getD i default).a, (l.getD i default).b, (l.getD i default).c, (l.getD i default).d, (l.getD i default).y].getD j 0)) := fun i hi j hj => by
    rw [Nat.add_assoc, hc (i * 7 + j) (by omega), WT_get l i j (by omega) hj]
  exact ⟨b, off, hA, hb, fun i hi => ⟨hg i hi 0 (by decide), hg i hi 1 (by decide), hg i hi 2 (by decide), hg i hi 3 (by decide), hg i hi 4 (by decide), hg i hi 5 (by decide), hg i hi 6 (by decide)⟩⟩
structure Gt where
  q : Int
  x : Int
  h : Int
  v : Int
instance : Inhabited Gt := ⟨⟨0, 0, 0, 0⟩⟩
def GT (l : List Gt) : List Int := l.flatMap fun j => [j.q, j.x, j.h, j.v]
theorem GT_len (l : List Gt) : (GT l).length = l.length * 4 := flat_len _ 4 l (fun _ _ => rfl)
theorem GT_append (a b : List Gt) : GT (a ++ b) = GT a ++ GT b := by simp [GT]
theorem GT_get (l : List Gt) (i j : Nat) (h : i < l.length) (hj : j < 4) : (GT l).getD (i * 4 + j) 0 = [(l.getD i default).q, (l.getD i default).x, (l.getD i default).h, (l.getD i default).v].getD j 0 := by
  have := flat_getD (fun j : Gt => [j.q, j.x, j.h, j.v]) 4 l (fun _ _ => rfl) i j h hj
  have e : l.getD i default = l[i] := by simp [List.getD, h]
  rw [e]
  exact this
theorem GT_of : ∀ (n : Nat) (zs : List Int), zs.length = n * 4 → ∃ l : List Gt, l.length = n ∧ GT l = zs
  | 0, zs, h => ⟨[], rfl, by simpa [GT] using (List.eq_nil_of_length_eq_zero (by omega)).symm⟩
  | n + 1, a0 :: a1 :: a2 :: a3 :: zs, h => by
    obtain ⟨l, hl, he⟩ := GT_of n zs (by simp at h; omega)
    exact ⟨⟨a0, a1, a2, a3⟩ :: l, by simp [hl], by rw [← he]; rfl⟩
  | n + 1, [], h => by simp at h
  | n + 1, [_], h => by simp at h; omega
  | n + 1, [_, _], h => by simp at h; omega
  | n + 1, [_, _, _], h => by simp at h; omega
theorem sl_gots {w : World} {A : Option Addr} {n : Nat} {l : List Gt} (h : Sl w 4 A n (GT l)) (hn : 0 < n) : ∃ b off, A = some ⟨b, off, none⟩ ∧ b < w.heap.size ∧
    ∀ i, i < n → w.cell? ⟨b, off + i * 4, none⟩ = some (.int .i64 (l.getD i default).q) ∧ w.cell? ⟨b, off + i * 4 + 1, none⟩ = some (.int .i64 (l.getD i default).x) ∧ w.cell? ⟨b, off + i * 4 + 2, none⟩ = some (.int .i64 (l.getD i default).h) ∧ w.cell? ⟨b, off + i * 4 + 3, none⟩ = some (.int .i64 (l.getD i default).v) := by
  have hl : l.length = n := by
    have := h.len
    rw [GT_len] at this
    omega
  obtain ⟨b, off, hA, hb, hc⟩ := h.at_ hn
  have hg : ∀ i, i < n → ∀ j, j < 4 → w.cell? ⟨b, off + i * 4 + j, none⟩ = some (.int .i64 ([(l.getD i default).q, (l.getD i default).x, (l.getD i default).h, (l.getD i default).v].getD j 0)) := fun i hi j hj => by
    rw [Nat.add_assoc, hc (i * 4 + j) (by omega), GT_get l i j (by omega) hj]
  exact ⟨b, off, hA, hb, fun i hi => ⟨hg i hi 0 (by decide), hg i hi 1 (by decide), hg i hi 2 (by decide), hg i hi 3 (by decide)⟩⟩

theorem beqI (a b : Int) : (a == b) = decide (a = b) := by by_cases h : a = b <;> simp [h]
def opB (k a b c d : Int) : Bool :=
  if k = 1 then inB a 0 9 && (inB b 0 999 && (decide (c = 0) && decide (d = 0)))
  else if k = 2 then inB a 0 9 && (decide (b = 0) && (decide (c = 0) && decide (d = 0)))
  else if k = 3 then inB a 1 20 && (inB b 0 1000000 && (inB c 0 9 && inB d 0 999))
  else if k = 4 then inB a 1 20 && (inB b 0 1000 && (decide (c = 0) && decide (d = 0)))
  else if k = 5 then inB a 1 1000 && (decide (b = 0) && (decide (c = 0) && decide (d = 0)))
  else false
theorem seqOk_any (x : Int) (w : World) :
    Calls Try.prog 40 #[.int .i64 x] w fun e w' => e = .returned (.bool (inB x 1 2000)) ∧ w = w' := by
  go_enter Try.func40, Try.ntmps40
  go_wp2_with ((go_at_call 36; refine (between_any _ _ _ _).mono ?_; rintro e w' ⟨rfl, rfl⟩))
  go_ret; exact ⟨rfl, rfl⟩
theorem indexOk_any (x : Int) (w : World) :
    Calls Try.prog 42 #[.int .i64 x] w fun e w' => e = .returned (.bool (inB x 1 2000)) ∧ w = w' := by
  go_enter Try.func42, Try.ntmps42
  go_wp2_with ((go_at_call 36; refine (between_any _ _ _ _).mono ?_; rintro e w' ⟨rfl, rfl⟩))
  go_ret; exact ⟨rfl, rfl⟩
theorem askerOk_any (x : Int) (w : World) :
    Calls Try.prog 39 #[.int .i64 x] w fun e w' => e = .returned (.bool (inB x 2 5)) ∧ w = w' := by
  go_enter Try.func39, Try.ntmps39
  go_wp2_with ((go_at_call 36; refine (between_any _ _ _ _).mono ?_; rintro e w' ⟨rfl, rfl⟩))
  go_ret; exact ⟨rfl, rfl⟩
set_option maxHeartbeats 1000000 in
theorem opOk_any (k a b c d : Int) (w : World) :
    Calls Try.prog 47 #[.agg #[.int .i64 k, .int .i64 a, .int .i64 b, .int .i64 c, .int .i64 d]] w fun e' w' => e' = .returned (.bool (opB k a b c d)) ∧ Below w.heap.size w w' := by
  by_cases h1 : k = 1
  · subst h1
    go_enter Try.func47, Try.ntmps47
    go_wp2_with (first | (go_at_call 48; refine (keyOk_any _ _).mono ?_; rintro e w' ⟨rfl, rfl⟩) | (go_at_call 46; refine (valueOk_any _ _).mono ?_; rintro e w' ⟨rfl, rfl⟩) | (go_at_call 49; refine (idOk_any _ _).mono ?_; rintro e w' ⟨rfl, rfl⟩) | (go_at_call 50; refine (timeOk_any _ _).mono ?_; rintro e w' ⟨rfl, rfl⟩) | (go_at_call 36; refine (between_any _ _ _ _).mono ?_; rintro e w' ⟨rfl, rfl⟩))
    all_goals (go_ret; unfold opB; exact ⟨ret_bool (by first | (simp [*, beqI]; done) | (subst_vars; simp [*, beqI]; done) | (simp [*, beqI]; intros; omega) | (simp_all [beqI]; done)), by (repeat' (first | (with_reducible exact Below.refl _ _) | (with_reducible assumption) | (with_reducible refine Below.alloc ?_ ?_ _) | (with_reducible refine Below.drew ?_) | (with_reducible refine Below.setCell ?_ ?_ _) | (with_reducible refine bstep (by assumption) ?_ ?_) | (with_reducible exact Nat.le_refl _) | omega | (simp [*]; done) | (simp [*]; omega)))⟩)
  by_cases h2 : k = 2
  · subst h2
    go_enter Try.func47, Try.ntmps47
    go_wp2_with (first | (go_at_call 48; refine (keyOk_any _ _).mono ?_; rintro e w' ⟨rfl, rfl⟩) | (go_at_call 46; refine (valueOk_any _ _).mono ?_; rintro e w' ⟨rfl, rfl⟩) | (go_at_call 49; refine (idOk_any _ _).mono ?_; rintro e w' ⟨rfl, rfl⟩) | (go_at_call 50; refine (timeOk_any _ _).mono ?_; rintro e w' ⟨rfl, rfl⟩) | (go_at_call 36; refine (between_any _ _ _ _).mono ?_; rintro e w' ⟨rfl, rfl⟩))
    all_goals (go_ret; unfold opB; exact ⟨ret_bool (by first | (simp [*, beqI]; done) | (subst_vars; simp [*, beqI]; done) | (simp [*, beqI]; intros; omega) | (simp_all [beqI]; done)), by (repeat' (first | (with_reducible exact Below.refl _ _) | (with_reducible assumption) | (with_reducible refine Below.alloc ?_ ?_ _) | (with_reducible refine Below.drew ?_) | (with_reducible refine Below.setCell ?_ ?_ _) | (with_reducible refine bstep (by assumption) ?_ ?_) | (with_reducible exact Nat.le_refl _) | omega | (simp [*]; done) | (simp [*]; omega)))⟩)
  by_cases h3 : k = 3
  · subst h3
    go_enter Try.func47, Try.ntmps47
    go_wp2_with (first | (go_at_call 48; refine (keyOk_any _ _).mono ?_; rintro e w' ⟨rfl, rfl⟩) | (go_at_call 46; refine (valueOk_any _ _).mono ?_; rintro e w' ⟨rfl, rfl⟩) | (go_at_call 49; refine (idOk_any _ _).mono ?_; rintro e w' ⟨rfl, rfl⟩) | (go_at_call 50; refine (timeOk_any _ _).mono ?_; rintro e w' ⟨rfl, rfl⟩) | (go_at_call 36; refine (between_any _ _ _ _).mono ?_; rintro e w' ⟨rfl, rfl⟩))
    all_goals (go_ret; unfold opB; exact ⟨ret_bool (by first | (simp [*, beqI]; done) | (subst_vars; simp [*, beqI]; done) | (simp [*, beqI]; intros; omega) | (simp_all [beqI]; done)), by (repeat' (first | (with_reducible exact Below.refl _ _) | (with_reducible assumption) | (with_reducible refine Below.alloc ?_ ?_ _) | (with_reducible refine Below.drew ?_) | (with_reducible refine Below.setCell ?_ ?_ _) | (with_reducible refine bstep (by assumption) ?_ ?_) | (with_reducible exact Nat.le_refl _) | omega | (simp [*]; done) | (simp [*]; omega)))⟩)
  by_cases h4 : k = 4
  · subst h4
    go_enter Try.func47, Try.ntmps47
    go_wp2_with (first | (go_at_call 48; refine (keyOk_any _ _).mono ?_; rintro e w' ⟨rfl, rfl⟩) | (go_at_call 46; refine (valueOk_any _ _).mono ?_; rintro e w' ⟨rfl, rfl⟩) | (go_at_call 49; refine (idOk_any _ _).mono ?_; rintro e w' ⟨rfl, rfl⟩) | (go_at_call 50; refine (timeOk_any _ _).mono ?_; rintro e w' ⟨rfl, rfl⟩) | (go_at_call 36; refine (between_any _ _ _ _).mono ?_; rintro e w' ⟨rfl, rfl⟩))
    all_goals (go_ret; unfold opB; exact ⟨ret_bool (by first | (simp [*, beqI]; done) | (subst_vars; simp [*, beqI]; done) | (simp [*, beqI]; intros; omega) | (simp_all [beqI]; done)), by (repeat' (first | (with_reducible exact Below.refl _ _) | (with_reducible assumption) | (with_reducible refine Below.alloc ?_ ?_ _) | (with_reducible refine Below.drew ?_) | (with_reducible refine Below.setCell ?_ ?_ _) | (with_reducible refine bstep (by assumption) ?_ ?_) | (with_reducible exact Nat.le_refl _) | omega | (simp [*]; done) | (simp [*]; omega)))⟩)
  by_cases h5 : k = 5
  · subst h5
    go_enter Try.func47, Try.ntmps47
    go_wp2_with (first | (go_at_call 48; refine (keyOk_any _ _).mono ?_; rintro e w' ⟨rfl, rfl⟩) | (go_at_call 46; refine (valueOk_any _ _).mono ?_; rintro e w' ⟨rfl, rfl⟩) | (go_at_call 49; refine (idOk_any _ _).mono ?_; rintro e w' ⟨rfl, rfl⟩) | (go_at_call 50; refine (timeOk_any _ _).mono ?_; rintro e w' ⟨rfl, rfl⟩) | (go_at_call 36; refine (between_any _ _ _ _).mono ?_; rintro e w' ⟨rfl, rfl⟩))
    all_goals (go_ret; unfold opB; exact ⟨ret_bool (by first | (simp [*, beqI]; done) | (subst_vars; simp [*, beqI]; done) | (simp [*, beqI]; intros; omega) | (simp_all [beqI]; done)), by (repeat' (first | (with_reducible exact Below.refl _ _) | (with_reducible assumption) | (with_reducible refine Below.alloc ?_ ?_ _) | (with_reducible refine Below.drew ?_) | (with_reducible refine Below.setCell ?_ ?_ _) | (with_reducible refine bstep (by assumption) ?_ ?_) | (with_reducible exact Nat.le_refl _) | omega | (simp [*]; done) | (simp [*]; omega)))⟩)
  go_enter Try.func47, Try.ntmps47
  go_wp2_with fail
  all_goals (go_ret; unfold opB; exact ⟨ret_bool (by first | (simp [*, beqI]; done) | (subst_vars; simp [*, beqI]; done) | (simp [*, beqI]; intros; omega) | (simp_all [beqI]; done)), by (repeat' (first | (with_reducible exact Below.refl _ _) | (with_reducible assumption) | (with_reducible refine Below.alloc ?_ ?_ _) | (with_reducible refine Below.drew ?_) | (with_reducible refine Below.setCell ?_ ?_ _) | (with_reducible refine bstep (by assumption) ?_ ?_) | (with_reducible exact Nat.le_refl _) | omega | (simp [*]; done) | (simp [*]; omega)))⟩)
def wantB (k o a b c d y : Int) : Bool :=
  if k = 1 ∨ k = 2 ∨ k = 3 then opB o a b c d && (decide (o = k) && decide (y = 0))
  else if k = 4 then decide (o = 0 ∧ a = 0 ∧ b = 0 ∧ c = 0 ∧ d = 0) && inB y 0 9
  else false
def wantOkB (x : Wt) : Bool := wantB x.k x.o x.a x.b x.c x.d x.y
def foundB (h v : Int) : Bool := (decide (h = 0) && decide (v = 0)) || (decide (h = 1) && inB v 0 999)
def gotB (k q x h v seq last : Int) : Bool := decide (q = seq) && (inB x last 2000 && (if k = 4 then foundB h v else decide (last < x) && (decide (h = 0) && decide (v = 0))))
def lastAt (gl : List Gt) (i : Nat) : Int := if i = 0 then 0 else (gl.getD (i - 1) default).x
def gotAt (wl : List Wt) (gl : List Gt) (i : Nat) : Bool := gotB (wl.getD i default).k (gl.getD i default).q (gl.getD i default).x (gl.getD i default).h (gl.getD i default).v ((i : Int) + 1) (lastAt gl i)
def wantsB (wl : List Wt) : Bool := (List.range wl.length).all fun i => wantOkB (wl.getD i default)
def gotsB (wl : List Wt) (gl : List Gt) : Bool := (List.range gl.length).all (gotAt wl gl)
def clientB (i0 : Int) (wl : List Wt) (gl : List Gt) (t0 : Int) : Bool := (decide (i0 = 4) || decide (i0 = 5)) && (decide (wl.length ≤ 12) && (wantsB wl && (decide (gl.length ≤ wl.length) && (gotsB wl gl && decide (t0 = lastAt gl gl.length)))))
attribute [local go_sem] Ext.cell Ext.frozen
theorem foundB_eq (h v : Int) : foundB h v = (inB h 0 1 && (inB v 0 999 && (decide (h = 1) || decide (v = 0)))) := by
  rw [Bool.eq_iff_iff]
  unfold foundB
  simp only [Bool.or_eq_true, Bool.and_eq_true, decide_eq_true_eq, inB_iff]
  omega
theorem foundOk_any (h v : Int) (w : World) : Calls Try.prog 41 #[.int .i64 h, .int .i64 v] w fun e w' => e = .returned (.bool (foundB h v)) ∧ w = w' := by
  go_enter Try.func41, Try.ntmps41
  go_wp2_with ((go_at_call 46; refine (valueOk_any _ _).mono ?_; rintro e w' ⟨rfl, rfl⟩))
  all_goals (go_ret; exact ⟨ret_bool (by unfold foundB; (first | rfl | (simp [*]; done) | (subst_vars; simp [*]; done) | (simp_all; done))), rfl⟩)
set_option maxHeartbeats 1000000 in
theorem wantOk_any (k o a b c d y : Int) (w : World) :
    Calls Try.prog 43 #[.agg #[.int .i64 k, .int .i64 o, .int .i64 a, .int .i64 b, .int .i64 c, .int .i64 d, .int .i64 y]] w fun e' w' => e' = .returned (.bool (wantB k o a b c d y)) ∧ Below w.heap.size w w' := by
  by_cases h1 : k = 1
  · subst h1
    go_enter Try.func43, Try.ntmps43
    go_wp2_with (first | (go_at_call 47; refine (opOk_any _ _ _ _ _ _).mono ?_; rintro e w1 ⟨rfl, hb'⟩; (first | (have hb2 := bstep hb' hb hb.size; clear hb' hcb hfb hz1 hz2 hz3 hz4 hb; have hb := hb2; clear hb2) | (have hb := hb'; clear hb')); obtain ⟨hcb, hfb, hz1, hz2, hz3, hz4⟩ := bcell hb; (try simp only [World.size_alloc, World.size_setCell, World.size_drew, Nat.lt_add_one_iff, Nat.add_assoc, Nat.reduceAdd] at hz1 hz2 hz3 hz4)) | (go_at_call 48; refine (keyOk_any _ _).mono ?_; rintro e w' ⟨rfl, rfl⟩))
    all_goals (go_ret; unfold wantB; exact ⟨ret_bool (by first | (simp [*, beqI]; done) | (subst_vars; simp [*, beqI]; done) | (simp [*, beqI]; intros; omega) | (simp_all [beqI]; done)), by (repeat' (first | (with_reducible exact Below.refl _ _) | (with_reducible assumption) | (with_reducible refine Below.alloc ?_ ?_ _) | (with_reducible refine Below.drew ?_) | (with_reducible refine Below.setCell ?_ ?_ _) | (with_reducible refine bstep (by assumption) ?_ ?_) | (with_reducible exact Nat.le_refl _) | omega | (simp [*]; done) | (simp [*]; omega)))⟩)
  by_cases h2 : k = 2
  · subst h2
    go_enter Try.func43, Try.ntmps43
    go_wp2_with (first | (go_at_call 47; refine (opOk_any _ _ _ _ _ _).mono ?_; rintro e w1 ⟨rfl, hb'⟩; (first | (have hb2 := bstep hb' hb hb.size; clear hb' hcb hfb hz1 hz2 hz3 hz4 hb; have hb := hb2; clear hb2) | (have hb := hb'; clear hb')); obtain ⟨hcb, hfb, hz1, hz2, hz3, hz4⟩ := bcell hb; (try simp only [World.size_alloc, World.size_setCell, World.size_drew, Nat.lt_add_one_iff, Nat.add_assoc, Nat.reduceAdd] at hz1 hz2 hz3 hz4)) | (go_at_call 48; refine (keyOk_any _ _).mono ?_; rintro e w' ⟨rfl, rfl⟩))
    all_goals (go_ret; unfold wantB; exact ⟨ret_bool (by first | (simp [*, beqI]; done) | (subst_vars; simp [*, beqI]; done) | (simp [*, beqI]; intros; omega) | (simp_all [beqI]; done)), by (repeat' (first | (with_reducible exact Below.refl _ _) | (with_reducible assumption) | (with_reducible refine Below.alloc ?_ ?_ _) | (with_reducible refine Below.drew ?_) | (with_reducible refine Below.setCell ?_ ?_ _) | (with_reducible refine bstep (by assumption) ?_ ?_) | (with_reducible exact Nat.le_refl _) | omega | (simp [*]; done) | (simp [*]; omega)))⟩)
  by_cases h3 : k = 3
  · subst h3
    go_enter Try.func43, Try.ntmps43
    go_wp2_with (first | (go_at_call 47; refine (opOk_any _ _ _ _ _ _).mono ?_; rintro e w1 ⟨rfl, hb'⟩; (first | (have hb2 := bstep hb' hb hb.size; clear hb' hcb hfb hz1 hz2 hz3 hz4 hb; have hb := hb2; clear hb2) | (have hb := hb'; clear hb')); obtain ⟨hcb, hfb, hz1, hz2, hz3, hz4⟩ := bcell hb; (try simp only [World.size_alloc, World.size_setCell, World.size_drew, Nat.lt_add_one_iff, Nat.add_assoc, Nat.reduceAdd] at hz1 hz2 hz3 hz4)) | (go_at_call 48; refine (keyOk_any _ _).mono ?_; rintro e w' ⟨rfl, rfl⟩))
    all_goals (go_ret; unfold wantB; exact ⟨ret_bool (by first | (simp [*, beqI]; done) | (subst_vars; simp [*, beqI]; done) | (simp [*, beqI]; intros; omega) | (simp_all [beqI]; done)), by (repeat' (first | (with_reducible exact Below.refl _ _) | (with_reducible assumption) | (with_reducible refine Below.alloc ?_ ?_ _) | (with_reducible refine Below.drew ?_) | (with_reducible refine Below.setCell ?_ ?_ _) | (with_reducible refine bstep (by assumption) ?_ ?_) | (with_reducible exact Nat.le_refl _) | omega | (simp [*]; done) | (simp [*]; omega)))⟩)
  by_cases h4 : k = 4
  · subst h4
    go_enter Try.func43, Try.ntmps43
    go_wp2_with (first | (go_at_call 47; refine (opOk_any _ _ _ _ _ _).mono ?_; rintro e w1 ⟨rfl, hb'⟩; (first | (have hb2 := bstep hb' hb hb.size; clear hb' hcb hfb hz1 hz2 hz3 hz4 hb; have hb := hb2; clear hb2) | (have hb := hb'; clear hb')); obtain ⟨hcb, hfb, hz1, hz2, hz3, hz4⟩ := bcell hb; (try simp only [World.size_alloc, World.size_setCell, World.size_drew, Nat.lt_add_one_iff, Nat.add_assoc, Nat.reduceAdd] at hz1 hz2 hz3 hz4)) | (go_at_call 48; refine (keyOk_any _ _).mono ?_; rintro e w' ⟨rfl, rfl⟩))
    all_goals (go_ret; unfold wantB; exact ⟨ret_bool (by first | (simp [*, beqI]; done) | (subst_vars; simp [*, beqI]; done) | (simp [*, beqI]; intros; omega) | (simp_all [beqI]; done)), by (repeat' (first | (with_reducible exact Below.refl _ _) | (with_reducible assumption) | (with_reducible refine Below.alloc ?_ ?_ _) | (with_reducible refine Below.drew ?_) | (with_reducible refine Below.setCell ?_ ?_ _) | (with_reducible refine bstep (by assumption) ?_ ?_) | (with_reducible exact Nat.le_refl _) | omega | (simp [*]; done) | (simp [*]; omega)))⟩)
  go_enter Try.func43, Try.ntmps43
  go_wp2
  all_goals (go_ret; unfold wantB; exact ⟨ret_bool (by first | (simp [*, beqI]; done) | (subst_vars; simp [*, beqI]; done) | (simp [*, beqI]; intros; omega) | (simp_all [beqI]; done)), by (repeat' (first | (with_reducible exact Below.refl _ _) | (with_reducible assumption) | (with_reducible refine Below.alloc ?_ ?_ _) | (with_reducible refine Below.drew ?_) | (with_reducible refine Below.setCell ?_ ?_ _) | (with_reducible refine bstep (by assumption) ?_ ?_) | (with_reducible exact Nat.le_refl _) | omega | (simp [*]; done) | (simp [*]; omega)))⟩)
set_option maxHeartbeats 1000000 in
theorem gotOk_any (k o a b c d y q x h v seq last : Int) (w : World) :
    Calls Try.prog 33 #[.agg #[.int .i64 k, .int .i64 o, .int .i64 a, .int .i64 b, .int .i64 c, .int .i64 d, .int .i64 y], .agg #[.int .i64 q, .int .i64 x, .int .i64 h, .int .i64 v], .int .i64 seq, .int .i64 last] w fun e' w' => e' = .returned (.bool (gotB k q x h v seq last)) ∧ Below w.heap.size w w' := by
  by_cases h4 : k = 4
  · subst h4
    go_enter Try.func33, Try.ntmps33
    go_wp2_with (first | (go_at_call 36; refine (between_any _ _ _ _).mono ?_; rintro e w' ⟨rfl, rfl⟩) | (go_at_call 41; refine (foundOk_any _ _ _).mono ?_; rintro e w' ⟨rfl, rfl⟩))
    all_goals (go_ret; unfold gotB; exact ⟨ret_bool (by first | (simp [*, beqI]; done) | (subst_vars; simp [*, beqI]; done) | (simp [*, beqI]; intros; omega) | (simp_all [beqI]; done)), by (repeat' (first | (with_reducible exact Below.refl _ _) | (with_reducible assumption) | (with_reducible refine Below.alloc ?_ ?_ _) | (with_reducible refine Below.drew ?_) | (with_reducible refine Below.setCell ?_ ?_ _) | (with_reducible refine bstep (by assumption) ?_ ?_) | (with_reducible exact Nat.le_refl _) | omega | (simp [*]; done) | (simp [*]; omega)))⟩)
  · go_enter Try.func33, Try.ntmps33
    go_wp2_with (first | (go_at_call 36; refine (between_any _ _ _ _).mono ?_; rintro e w' ⟨rfl, rfl⟩) | (go_at_call 41; refine (foundOk_any _ _ _).mono ?_; rintro e w' ⟨rfl, rfl⟩))
    all_goals (go_ret; unfold gotB; exact ⟨ret_bool (by first | (simp [*, beqI]; done) | (subst_vars; simp [*, beqI]; done) | (simp [*, beqI]; intros; omega) | (simp_all [beqI]; done)), by (repeat' (first | (with_reducible exact Below.refl _ _) | (with_reducible assumption) | (with_reducible refine Below.alloc ?_ ?_ _) | (with_reducible refine Below.drew ?_) | (with_reducible refine Below.setCell ?_ ?_ _) | (with_reducible refine bstep (by assumption) ?_ ?_) | (with_reducible exact Nat.le_refl _) | omega | (simp [*]; done) | (simp [*]; omega)))⟩)
end Go.Proofs.Ytckbnfgdjdppfaa

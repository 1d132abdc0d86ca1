/- The client of FnClientSends: what it hears keeps it a client. -/
import Derived.Test.YtckbnfgdjdppfaaC9
import Derived.Test.YtckbnfgdjdppfaaC13
import Derived.Test.YtckbnfgdjdppfaaC15
import Derived.Test.YtckbnfgdjdppfaaD6
import Derived.Test.YtckbnfgdjdppfaaSd4
namespace Go.Proofs.Ytckbnfgdjdppfaa
set_option linter.unusedSimpArgs false
set_option linter.unusedVariables false
attribute [local go_sem] n_lt2 n_lt3 n_lt4 n_le2 n_le3
open Go.RowKit
theorem client_new {wl : List Wt} (h : wantsB wl = true) (hl : wl.length ≤ 12) : clientB 5 wl [] 0 = true := by
  unfold clientB gotsB
  simp [h, hl, lastAt]
theorem getD_snoc_lt {α : Type} [Inhabited α] (l : List α) (x : α) (i : Nat) (h : i < l.length) : (l ++ [x]).getD i default = l.getD i default := by
  simp [List.getD, List.getElem?_append_left h]
theorem getD_snoc_eq {α : Type} [Inhabited α] (l : List α) (x : α) : (l ++ [x]).getD l.length default = x := by simp [List.getD]
theorem lastAt_snoc (gl : List Gt) (g : Gt) (i : Nat) (h : i ≤ gl.length) : lastAt (gl ++ [g]) i = lastAt gl i := by
  unfold lastAt
  by_cases h0 : i = 0
  · rw [if_pos h0, if_pos h0]
  · rw [if_neg h0, if_neg h0, getD_snoc_lt _ _ _ (by omega)]
theorem lastAt_end (gl : List Gt) (g : Gt) : lastAt (gl ++ [g]) (gl.length + 1) = g.x := by
  unfold lastAt
  rw [if_neg (by omega), Nat.add_sub_cancel, getD_snoc_eq]
/-- What is left of a client: its parts. -/
theorem clientB_parts {i0 t0 : Int} {wl : List Wt} {gl : List Gt} (h : clientB i0 wl gl t0 = true) : (i0 = 4 ∨ i0 = 5) ∧ wl.length ≤ 12 ∧ wantsB wl = true ∧ gl.length ≤ wl.length ∧ (∀ j, j < gl.length → gotAt wl gl j = true) ∧ t0 = lastAt gl gl.length := by
  unfold clientB gotsB at h
  simp only [Bool.and_eq_true, Bool.or_eq_true, decide_eq_true_eq, List.all_eq_true, List.mem_range] at h
  exact ⟨h.1, h.2.1, h.2.2.1, h.2.2.2.1, h.2.2.2.2.1, h.2.2.2.2.2⟩
theorem clientB_mk {i0 t0 : Int} {wl : List Wt} {gl : List Gt} (h1 : i0 = 4 ∨ i0 = 5) (h2 : wl.length ≤ 12) (h3 : wantsB wl = true) (h4 : gl.length ≤ wl.length) (h5 : ∀ j, j < gl.length → gotAt wl gl j = true) (h6 : t0 = lastAt gl gl.length) : clientB i0 wl gl t0 = true := by
  unfold clientB gotsB
  simp only [Bool.and_eq_true, Bool.or_eq_true, decide_eq_true_eq, List.all_eq_true, List.mem_range]
  exact ⟨h1, h2, h3, h4, h5, h6⟩
theorem pend_yes {wl : List Wt} {gl : List Gt} {q : Int} (h : pendS wl gl = q) (hq : 1 ≤ q) : gl.length ≠ wl.length ∧ q = (gl.length : Int) + 1 ∧ pendW wl gl = wl.getD gl.length default := by
  unfold pendS at h
  by_cases he : gl.length = wl.length
  · rw [if_pos he] at h
    omega
  · rw [if_neg he] at h
    refine ⟨he, h.symm, ?_⟩
    unfold pendW
    rw [if_neg he]
theorem clientB_snoc {i0 t0 : Int} {wl : List Wt} {gl : List Gt} {g : Gt} (h : clientB i0 wl gl t0 = true) (hne : gl.length ≠ wl.length) (hg : gotB (wl.getD gl.length default).k g.q g.x g.h g.v ((gl.length : Int) + 1) t0 = true) : clientB i0 wl (gl ++ [g]) g.x = true := by
  obtain ⟨h1, h2, h3, h4, h5, h6⟩ := clientB_parts h
  refine clientB_mk h1 h2 h3 (by simp; omega) (fun j hj => ?_) (by rw [List.length_append]; exact (lastAt_end gl g).symm)
  simp only [List.length_append, List.length_singleton] at hj
  unfold gotAt
  rw [lastAt_snoc _ _ _ (by omega)]
  by_cases hlt : j < gl.length
  · rw [getD_snoc_lt _ _ _ hlt]
    exact h5 j hlt
  · have he : j = gl.length := by omega
    subst he
    rw [getD_snoc_eq, ← h6]
    exact hg
/-- Block g holds a client (5) over rows of its own behind p. -/
structure CB (w : World) (g p : Nat) (A : Option Addr) (N c : Nat) (B : Option Addr) (m d : Nat) (t0 : Int) (zp zq : List Int) : Prop where
  k : Blk w g 32 #[.int .i64 5, .slice A N c, .slice B m d, .int .i64 t0]
  P : Row w (p + 1) 45 7 A N c zp
  Q : Row w (p + 1) 75 4 B m d zq
  hp : p < g
  na : ∀ a, A = some a → a.block ≠ g
  nb : ∀ a, B = some a → a.block ≠ g
section
variable {w w' : World} {g p : Nat} {A : Option Addr} {N c : Nat} {B : Option Addr} {m d : Nat} {t0 : Int} {zp zq : List Int}
theorem CB.below (h : CB w g p A N c B m d t0 zp zq) (hb : Below w.heap.size w w') : CB w' g p A N c B m d t0 zp zq :=
  ⟨h.k.below hb, h.P.below hb, h.Q.below hb, h.hp, h.na, h.nb⟩
theorem CB.alloc (h : CB w g p A N c B m d t0 zp zq) (o : Obj) : CB (w.alloc o) g p A N c B m d t0 zp zq :=
  h.below ((Below.refl _ _).alloc (Nat.le_refl _) o)
theorem CB.dice (h : CB w g p A N c B m d t0 zp zq) (hw : Wrote w w' (some ⟨p, 0, none⟩)) : CB w' g p A N c B m d t0 zp zq :=
  ⟨h.k.wrote2 hw (Nat.ne_of_gt h.hp), rowd h.P hw (Nat.lt_succ_self p), rowd h.Q hw (Nat.lt_succ_self p), h.hp, h.na, h.nb⟩
theorem CB.copy (h : CB w g p A N c B m d t0 zp zq) : CB (w.alloc (.cells #[.int .i64 5, .slice A N c, .slice B m d, .int .i64 t0] 32)) w.heap.size p A N c B m d t0 zp zq :=
  ⟨Blk.new _ _ _, h.P.alloc _, h.Q.alloc _, Nat.lt_trans h.hp h.k.lt, fun a ha => Nat.ne_of_lt (h.P.lt a ha), fun a ha => Nat.ne_of_lt (h.Q.lt a ha)⟩
theorem CB.fresh (hP : Row w (p + 1) 45 7 A N c zp) (hQ : Row w (p + 1) 75 4 B m d zq) (hp : p < w.heap.size) : CB (w.alloc (.cells #[.int .i64 5, .slice A N c, .slice B m d, .int .i64 t0] 32)) w.heap.size p A N c B m d t0 zp zq :=
  ⟨Blk.new _ _ _, hP.alloc _, hQ.alloc _, hp, fun a ha => Nat.ne_of_lt (hP.lt a ha), fun a ha => Nat.ne_of_lt (hQ.lt a ha)⟩
theorem CB.far (h : CB w g p A N c B m d t0 zp zq) {q : Nat} (hg : g ≠ q) (ha : ∀ a, A = some a → a.block ≠ q) (hb : ∀ a, B = some a → a.block ≠ q) (i : Nat) (u : Value) : CB (w.setCell ⟨q, i, none⟩ u) g p A N c B m d t0 zp zq :=
  ⟨h.k.far hg u, h.P.far ha u, h.Q.far hb u, h.hp, h.na, h.nb⟩
theorem CB.far4 (h : CB w g p A N c B m d t0 zp zq) {q : Nat} (hg : g ≠ q) (ha : ∀ a, A = some a → a.block ≠ q) (hb : ∀ a, B = some a → a.block ≠ q) (y0 y1 y2 y3 : Value) : CB ((((w.setCell ⟨q, 0, none⟩ y0).setCell ⟨q, 1, none⟩ y1).setCell ⟨q, 2, none⟩ y2).setCell ⟨q, 3, none⟩ y3) g p A N c B m d t0 zp zq :=
  (((h.far hg ha hb 0 y0).far hg ha hb 1 y1).far hg ha hb 2 y2).far hg ha hb 3 y3
theorem CB.cells (h : CB w g p A N c B m d t0 zp zq) : w.cell? ⟨g, 0, none⟩ = some (.int .i64 5) ∧ w.cell? ⟨g, 1, none⟩ = some (.slice A N c) ∧ w.cell? ⟨g, 2, none⟩ = some (.slice B m d) ∧ w.cell? ⟨g, 3, none⟩ = some (.int .i64 t0) :=
  ⟨h.k.cell 0, h.k.cell 1, h.k.cell 2, h.k.cell 3⟩
theorem CB.cells_drew (h : CB w g p A N c B m d t0 zp zq) : w.drew.cell? ⟨g, 0, none⟩ = some (.int .i64 5) ∧ w.drew.cell? ⟨g, 1, none⟩ = some (.slice A N c) ∧ w.drew.cell? ⟨g, 2, none⟩ = some (.slice B m d) ∧ w.drew.cell? ⟨g, 3, none⟩ = some (.int .i64 t0) :=
  ⟨h.k.cell 0, h.k.cell 1, h.k.cell 2, h.k.cell 3⟩
/-- Another client is stored into the block. -/
theorem CB.put {A' : Option Addr} {N' c' : Nat} {B' : Option Addr} {m' d' : Nat} {t' : Int} {zp' zq' : List Int} (h : CB w g p A N c B m d t0 zp zq) (hP : Row w (p + 1) 45 7 A' N' c' zp') (hQ : Row w (p + 1) 75 4 B' m' d' zq') (ha : ∀ a, A' = some a → a.block ≠ g) (hb : ∀ a, B' = some a → a.block ≠ g) :
    CB ((((w.setCell ⟨g, 0, none⟩ (.int .i64 5)).setCell ⟨g, 1, none⟩ (.slice A' N' c')).setCell ⟨g, 2, none⟩ (.slice B' m' d')).setCell ⟨g, 3, none⟩ (.int .i64 t')) g p A' N' c' B' m' d' t' zp' zq' :=
  ⟨(((h.k.set_ 0 _).set_ 1 _).set_ 2 _).set_ 3 _, (((hP.far (p := ⟨g, 0, none⟩) ha _).far (p := ⟨g, 1, none⟩) ha _).far (p := ⟨g, 2, none⟩) ha _).far (p := ⟨g, 3, none⟩) ha _, (((hQ.far (p := ⟨g, 0, none⟩) hb _).far (p := ⟨g, 1, none⟩) hb _).far (p := ⟨g, 2, none⟩) hb _).far (p := ⟨g, 3, none⟩) hb _, h.hp, ha, hb⟩
end
theorem DC.far4 {w : World} {p D g : Nat} (h : DC w p D) (hg : p < g) (y0 y1 y2 y3 : Value) : DC ((((w.setCell ⟨g, 0, none⟩ y0).setCell ⟨g, 1, none⟩ y1).setCell ⟨g, 2, none⟩ y2).setCell ⟨g, 3, none⟩ y3) p D :=
  (((h.far (q := ⟨g, 0, none⟩) hg y0).far (q := ⟨g, 1, none⟩) hg y1).far (q := ⟨g, 2, none⟩) hg y2).far (q := ⟨g, 3, none⟩) hg y3
theorem below4 {w0 w : World} {lo g : Nat} (h : Below lo w0 w) (hg : lo ≤ g) (y0 y1 y2 y3 : Value) : Below lo w0 ((((w.setCell ⟨g, 0, none⟩ y0).setCell ⟨g, 1, none⟩ y1).setCell ⟨g, 2, none⟩ y2).setCell ⟨g, 3, none⟩ y3) :=
  (((h.setCell (p := ⟨g, 0, none⟩) hg y0).setCell (p := ⟨g, 1, none⟩) hg y1).setCell (p := ⟨g, 2, none⟩) hg y2).setCell (p := ⟨g, 3, none⟩) hg y3
/-- A fitting acknowledgment. -/
theorem sends_ack {wl : List Wt} {gl : List Gt} {t0 x : Int} {k : Nat} (hb : clientB 5 wl gl t0 = true) (hk : gl.length = k) (hlt : k < wl.length) (h4 : ¬ (wl.getD k default).k = 4) (h0 : 0 ≤ t0) (hx : t0 < x) (hx2 : x ≤ 2000) :
    heardR 5 wl gl t0 (ackFit 5 wl gl t0 5 ((k : Int) + 1) x ((k : Int) + 1)) ⟨pendS wl gl, x, 0, 0⟩ = (5, wl, gl ++ [⟨(k : Int) + 1, x, 0, 0⟩], x) ∧ clientB 5 wl (gl ++ [⟨(k : Int) + 1, x, 0, 0⟩]) x = true := by
  have hle := clientB_le hb
  have hne : gl.length ≠ wl.length := by omega
  have hs : pendS wl gl = (k : Int) + 1 := by unfold pendS; rw [if_neg hne, hk]
  have hw : pendW wl gl = wl.getD k default := by unfold pendW; rw [if_neg hne, hk]
  have hf : ackFit 5 wl gl t0 5 ((k : Int) + 1) x ((k : Int) + 1) = true := by
    unfold ackFit ackB
    rw [hs, hw, if_neg (by omega)]
    simp only [Bool.and_eq_true, inB_iff, decide_eq_true_eq, true_and, and_true]
    omega
  refine ⟨by rw [heardR_yes hb hf, hs], clientB_snoc (g := ⟨(k : Int) + 1, x, 0, 0⟩) hb hne ?_⟩
  unfold gotB
  rw [if_neg (by rw [hk]; exact h4)]
  simp only [Bool.and_eq_true, inB_iff, decide_eq_true_eq, true_and, and_true]
  omega
theorem sends_val {wl : List Wt} {gl : List Gt} {t0 x : Int} {k : Nat} (hb : clientB 5 wl gl t0 = true) (hk : gl.length = k) (hlt : k < wl.length) (h4 : (wl.getD k default).k = 4) (h0 : 0 ≤ t0) (hx : t0 ≤ x) (hx2 : x ≤ 2000) :
    heardR 5 wl gl t0 (valFit 5 wl gl t0 5 ((k : Int) + 1) x 0 0) ⟨pendS wl gl, x, 0, 0⟩ = (5, wl, gl ++ [⟨(k : Int) + 1, x, 0, 0⟩], x) ∧ clientB 5 wl (gl ++ [⟨(k : Int) + 1, x, 0, 0⟩]) x = true := by
  have hle := clientB_le hb
  have hne : gl.length ≠ wl.length := by omega
  have hs : pendS wl gl = (k : Int) + 1 := by unfold pendS; rw [if_neg hne, hk]
  have hw : pendW wl gl = wl.getD k default := by unfold pendW; rw [if_neg hne, hk]
  have hfo : foundB 0 0 = true := by decide
  have hf : valFit 5 wl gl t0 5 ((k : Int) + 1) x 0 0 = true := by
    unfold valFit valB
    rw [hs, hw, hfo]
    simp only [Bool.and_eq_true, inB_iff, decide_eq_true_eq, true_and, and_true]
    omega
  refine ⟨by rw [heardR_yes hb hf, hs], clientB_snoc (g := ⟨(k : Int) + 1, x, 0, 0⟩) hb hne ?_⟩
  unfold gotB
  rw [if_pos (by rw [hk]; exact h4)]
  simp only [Bool.and_eq_true, inB_iff, decide_eq_true_eq]
  exact ⟨by omega, by omega, hfo⟩
/-- What HeardAck and HeardValue hand back here. -/
def RetOn (w : World) (N k : Nat) (wl : List Wt) (x : Int) (e : Ending) (w' : World) : Prop :=
  ∃ A' c' B' d' gl', e = .returned (.agg #[.int .i64 5, .slice A' N c', .slice B' (k + 1) d', .int .i64 x]) ∧ gl'.length = k + 1 ∧ clientB 5 wl gl' x = true ∧ Row w' w.heap.size 45 7 A' N c' (WT wl) ∧ Row w' w.heap.size 75 4 B' (k + 1) d' (GT gl') ∧ Below w.heap.size w w'
theorem heardAck_on (A : Option Addr) (N c : Nat) (B : Option Addr) (k d : Nat) (t0 x : Int) (wl : List Wt) (gl : List Gt) (w : World) (hP : Sl w 7 A N (WT wl)) (hQ : Sl w 4 B k (GT gl)) (hl : wl.length = N) (hr : gl.length = k) (hb : clientB 5 wl gl t0 = true) (hlt : k < N) (h4 : ¬ (wl.getD k default).k = 4) (h0 : 0 ≤ t0) (hx : t0 < x) (hx2 : x ≤ 2000) :
    Calls Try.prog 16 #[.agg #[.int .i64 5, .slice A N c, .slice B k d, .int .i64 t0], .agg #[.int .i64 5, .int .i64 ((k : Int) + 1), .int .i64 x, .int .i64 ((k : Int) + 1)]] w (RetOn w N k wl x) := by
  have hle := clientB_le hb
  have h := heardAck_any A N c B k d 5 t0 wl gl 5 ((k : Int) + 1) x ((k : Int) + 1) w hP hQ hl hr (by unfold maxLen; omega) (by unfold maxLen; omega)
  obtain ⟨hR, hC⟩ := sends_ack hb hr (by omega) h4 h0 hx hx2
  rw [hR] at h
  refine h.mono ?_
  rintro e w' ⟨A', c', B', d', rfl, P, Q, _, hbl⟩
  subst hl
  have hlen : (gl ++ [(⟨(k : Int) + 1, x, 0, 0⟩ : Gt)]).length = k + 1 := by simp [hr]
  rw [hlen] at Q ⊢
  exact ⟨A', c', B', d', _, rfl, hlen, hC, P, Q, hbl⟩
theorem heardValue_on (A : Option Addr) (N c : Nat) (B : Option Addr) (k d : Nat) (t0 x : Int) (wl : List Wt) (gl : List Gt) (w : World) (hP : Sl w 7 A N (WT wl)) (hQ : Sl w 4 B k (GT gl)) (hl : wl.length = N) (hr : gl.length = k) (hb : clientB 5 wl gl t0 = true) (hlt : k < N) (h4 : (wl.getD k default).k = 4) (h0 : 0 ≤ t0) (hx : t0 ≤ x) (hx2 : x ≤ 2000) :
    Calls Try.prog 14 #[.agg #[.int .i64 5, .slice A N c, .slice B k d, .int .i64 t0], .agg #[.int .i64 5, .int .i64 ((k : Int) + 1), .int .i64 x, .int .i64 0, .int .i64 0]] w (RetOn w N k wl x) := by
  have hle := clientB_le hb
  have h := heardValue_any A N c B k d 5 t0 wl gl 5 ((k : Int) + 1) x 0 0 w hP hQ hl hr (by unfold maxLen; omega) (by unfold maxLen; omega)
  obtain ⟨hR, hC⟩ := sends_val hb hr (by omega) h4 h0 hx hx2
  rw [hR] at h
  refine h.mono ?_
  rintro e w' ⟨A', c', B', d', rfl, P, Q, _, hbl⟩
  subst hl
  have hlen : (gl ++ [(⟨(k : Int) + 1, x, 0, 0⟩ : Gt)]).length = k + 1 := by simp [hr]
  rw [hlen] at Q ⊢
  exact ⟨A', c', B', d', _, rfl, hlen, hC, P, Q, hbl⟩
/-- What SendOf hands back at one message. -/
def RetMsg (w : World) (f t : Int) (n : Nat) (z : List Int) (e : Ending) (w' : World) : Prop :=
  ∃ g r rc cs, e = .returned (.slice (some ⟨g, 0, none⟩) 1 cs) ∧ w.heap.size ≤ g ∧ w.heap.size ≤ r ∧ n ≤ rc ∧ rc ≤ maxLen ∧ Blk w' g 38 #[.int .i64 f, .int .i64 t, .slice (some ⟨r, 0, none⟩) n rc] ∧ Row w' w.heap.size 2 1 (some ⟨r, 0, none⟩) n rc z ∧ Below w.heap.size w w'
theorem send_one (A : Option Addr) (N c : Nat) (B : Option Addr) (k d : Nat) (t0 : Int) (wl : List Wt) (gl : List Gt) (w : World) (hP : Sl w 7 A N (WT wl)) (hQ : Sl w 4 B k (GT gl)) (hl : wl.length = N) (hr : gl.length = k) (hn : N ≤ maxLen) (hm : k ≤ maxLen) (f t : Int) (z : List Int) (n : Nat) (hs : sendL 5 t0 wl gl = [⟨f, t, z⟩]) (hz : z.length = n) (hn0 : 0 < n) :
    Calls Try.prog 9 #[.agg #[.int .i64 5, .slice A N c, .slice B k d, .int .i64 t0]] w (RetMsg w f t n z) := by
  have h := sendOf_any A N c B k d 5 t0 wl gl w hP hQ hl hr hn hm
  rw [hs] at h
  refine h.mono ?_
  rintro e w' ⟨As, cs, rfl, -, M, hb⟩
  obtain ⟨hhi, hM | ⟨g, R, rc, m, hm1, hA, hg, hg2, K, RR, _⟩⟩ := M
  · cases hM
  · injection hm1 with hm1 _
    subst hm1 hA hz
    obtain ⟨r, cs2, hR, hr2, _, hnc, hcm, _, _⟩ := RR.blk hn0
    subst hR
    exact ⟨g, r, rc, cs, rfl, hg, hr2, hnc, hcm, K, RR, hb⟩
theorem send_none (A : Option Addr) (N c : Nat) (B : Option Addr) (k d : Nat) (t0 : Int) (wl : List Wt) (gl : List Gt) (w : World) (hP : Sl w 7 A N (WT wl)) (hQ : Sl w 4 B k (GT gl)) (hl : wl.length = N) (hr : gl.length = k) (hn : N ≤ maxLen) (hm : k ≤ maxLen) (hs : sendL 5 t0 wl gl = []) :
    Calls Try.prog 9 #[.agg #[.int .i64 5, .slice A N c, .slice B k d, .int .i64 t0]] w fun e w' => (∃ A' c', e = .returned (.slice A' 0 c')) ∧ Below w.heap.size w w' := by
  have h := sendOf_any A N c B k d 5 t0 wl gl w hP hQ hl hr hn hm
  rw [hs] at h
  refine h.mono ?_
  rintro e w' ⟨As, cs, rfl, -, _, hb⟩
  exact ⟨⟨As, cs, rfl⟩, hb⟩
theorem want_at {w : World} {b off n : Nat} {wl : List Wt} (h : Sl w 7 (some ⟨b, off, none⟩) n (WT wl)) {i : Nat} (hi : i < n) : b < w.heap.size ∧ w.cell? ⟨b, off + i * 7, none⟩ = some (.int .i64 (wl.getD i default).k) ∧ w.cell? ⟨b, off + i * 7 + 1, none⟩ = some (.int .i64 (wl.getD i default).o) ∧ w.cell? ⟨b, off + i * 7 + 2, none⟩ = some (.int .i64 (wl.getD i default).a) ∧ w.cell? ⟨b, off + i * 7 + 3, none⟩ = some (.int .i64 (wl.getD i default).b) ∧ w.cell? ⟨b, off + i * 7 + 4, none⟩ = some (.int .i64 (wl.getD i default).c) ∧ w.cell? ⟨b, off + i * 7 + 5, none⟩ = some (.int .i64 (wl.getD i default).d) ∧ w.cell? ⟨b, off + i * 7 + 6, none⟩ = some (.int .i64 (wl.getD i default).y) := by
  obtain ⟨b', o', hA, hb, hc⟩ := sl_wants h (by omega)
  injection hA with hA
  injection hA with h1 h2
  subst h1 h2
  exact ⟨hb, hc i hi⟩
/-- All that lives through the rounds: the client's box, the list of wants, the dice. -/
structure SX (w0 w : World) (p gx : Nat) (A : Option Addr) (N c : Nat) (B : Option Addr) (m d : Nat) (t0 : Int) (zp zq : List Int) (A2 : Option Addr) (c2 : Nat) : Prop where
  x : CB w gx p A N c B m d t0 zp zq
  t : Row w (p + 1) 45 7 A2 N c2 zp
  n : ∀ a, A2 = some a → a.block < gx
  d : DC w p 61
  f : Below p w0 w
section
variable {w0 w w' : World} {p gx : Nat} {A : Option Addr} {N c : Nat} {B : Option Addr} {m d : Nat} {t0 : Int} {zp zq : List Int} {A2 : Option Addr} {c2 : Nat}
theorem SX.below (h : SX w0 w p gx A N c B m d t0 zp zq A2 c2) (b : Below w.heap.size w w') : SX w0 w' p gx A N c B m d t0 zp zq A2 c2 :=
  ⟨h.x.below b, h.t.below b, h.n, h.d.new b, h.f.trans (b.mono (Nat.le_of_lt h.d.lt))⟩
theorem SX.alloc (h : SX w0 w p gx A N c B m d t0 zp zq A2 c2) (o : Obj) : SX w0 (w.alloc o) p gx A N c B m d t0 zp zq A2 c2 := h.below ((Below.refl _ _).alloc (Nat.le_refl _) o)
theorem SX.drewN (h : SX w0 w p gx A N c B m d t0 zp zq A2 c2) (q : Nat) : SX w0 (w.drewN q) p gx A N c B m d t0 zp zq A2 c2 := h.below (below_drewN (Below.refl _ _) q)
theorem SX.drew (h : SX w0 w p gx A N c B m d t0 zp zq A2 c2) : SX w0 w.drew p gx A N c B m d t0 zp zq A2 c2 := h.below (Below.drew (Below.refl _ _))
theorem SX.dice (h : SX w0 w p gx A N c B m d t0 zp zq A2 c2) (hw : Wrote w w' (some ⟨p, 0, none⟩)) (hd : DC w' p 61) : SX w0 w' p gx A N c B m d t0 zp zq A2 c2 :=
  ⟨h.x.dice hw, rowd h.t hw (Nat.lt_succ_self p), h.n, hd, hw.below h.f (Nat.le_of_lt h.d.lt) (fun a ha => by obtain rfl := Option.some.inj ha; exact Nat.le_refl _)⟩
theorem SX.dice_drew (h : SX w0 w p gx A N c B m d t0 zp zq A2 c2) (hw : Wrote w.drew w' (some ⟨p, 0, none⟩)) (hd : DC w' p 61) : SX w0 w' p gx A N c B m d t0 zp zq A2 c2 := h.drew.dice hw hd
theorem SX.put {A' : Option Addr} {c' : Nat} {B' : Option Addr} {m' d' : Nat} {t' : Int} {zq' : List Int} (h : SX w0 w p gx A N c B m d t0 zp zq A2 c2) (hP : Row w (p + 1) 45 7 A' N c' zp) (hQ : Row w (p + 1) 75 4 B' m' d' zq') (ha : ∀ a, A' = some a → a.block ≠ gx) (hb : ∀ a, B' = some a → a.block ≠ gx) :
    SX w0 ((((w.setCell ⟨gx, 0, none⟩ (.int .i64 5)).setCell ⟨gx, 1, none⟩ (.slice A' N c')).setCell ⟨gx, 2, none⟩ (.slice B' m' d')).setCell ⟨gx, 3, none⟩ (.int .i64 t')) p gx A' N c' B' m' d' t' zp zq' A2 c2 :=
  ⟨h.x.put hP hQ ha hb, (((h.t.far (p := ⟨gx, 0, none⟩) (fun a ha => Nat.ne_of_lt (h.n a ha)) _).far (p := ⟨gx, 1, none⟩) (fun a ha => Nat.ne_of_lt (h.n a ha)) _).far (p := ⟨gx, 2, none⟩) (fun a ha => Nat.ne_of_lt (h.n a ha)) _).far (p := ⟨gx, 3, none⟩) (fun a ha => Nat.ne_of_lt (h.n a ha)) _, h.n, h.d.far4 h.x.hp _ _ _ _, below4 h.f (Nat.le_of_lt h.x.hp) _ _ _ _⟩
theorem SX.on {w8 : World} {A' : Option Addr} {c' : Nat} {B' : Option Addr} {m' d' : Nat} {t' : Int} {zq' : List Int} (h : SX w0 w p gx A N c B m d t0 zp zq A2 c2) (hp : p < w8.heap.size) (hg : gx < w8.heap.size) (hP : Row w w8.heap.size 45 7 A' N c' zp) (hQ : Row w w8.heap.size 75 4 B' m' d' zq') :
    SX w0 ((((w.setCell ⟨gx, 0, none⟩ (.int .i64 5)).setCell ⟨gx, 1, none⟩ (.slice A' N c')).setCell ⟨gx, 2, none⟩ (.slice B' m' d')).setCell ⟨gx, 3, none⟩ (.int .i64 t')) p gx A' N c' B' m' d' t' zp zq' A2 c2 :=
  h.put (hP.mono hp) (hQ.mono hp) (fun a ha => Nat.ne_of_gt (Nat.lt_of_lt_of_le hg (hP.ge a ha))) (fun a ha => Nat.ne_of_gt (Nat.lt_of_lt_of_le hg (hQ.ge a ha)))
end
theorem op_neq (x0 x1 x2 x3 x4 : Int) (w : World) : (binOp .neq 43 (.agg #[.int .i64 x0, .int .i64 x1, .int .i64 x2, .int .i64 x3, .int .i64 x4]) (.agg #[.int .i64 x0, .int .i64 x1, .int .i64 x2, .int .i64 x3, .int .i64 x4])).run Try.prog w = .ok (.bool false) w := by
  have hS : Try.prog.underlying 43 = some (.struct (Try.prog.fieldsOf 43)) := by kernel_rfl
  have hp : Try.prog.stoodInHeld 43 = false := by kernel_rfl
  rw [run_neq_struct, show (10000 : Nat) = 9999 + 1 from rfl, run_equalIn_agg w 9999 43 _ _ hS hp]
  simp only [Program.fieldsOf, Try.underlying43]
  clear hS hp
  go_simp
end Go.Proofs.Ytckbnfgdjdppfaa

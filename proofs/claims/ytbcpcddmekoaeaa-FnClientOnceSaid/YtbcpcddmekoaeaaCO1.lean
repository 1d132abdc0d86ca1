/- The client of FnClientOnce: what it hears keeps it a client. -/
import Derived.Test.YtbcpcddmekoaeaaC9
import Derived.Test.YtbcpcddmekoaeaaC13
import Derived.Test.YtbcpcddmekoaeaaC15
import Derived.Test.YtbcpcddmekoaeaaD6
namespace Go.Proofs.Ytbcpcddmekoaeaa
set_option linter.unusedSimpArgs false
set_option linter.unusedVariables false
attribute [local go_sem] n_lt2 n_lt3 n_lt4 n_le2 n_le3
open Go.RowKit
theorem client_new {wl : List Wt} (h : wantsB wl = true) (hl : wl.length ≤ 12) : clientB 4 wl [] 0 = true := by
  unfold clientB gotsB
  simp [h, hl, lastAt]
theorem getD_snoc_lt {α : Type} [Inhabited α] (l : List α) (x : α) (i : Nat) (h : i < l.length) : (l ++ [x]).getD i default = l.getD i default := by
  simp [List.getD, List.getElem?_append_left h]
theorem getD_snoc_eq {α : Type} [Inhabited α] (l : List α) (x : α) : (l ++ [x]).getD l.length default = x := by simp [List.getD]
theorem lastAt_snoc (gl : List Gt) (g : Gt) (i : Nat) (h : i ≤ gl.length) : lastAt (gl ++ [g]) i = lastAt gl i := by
  unfold lastAt
  by_cases h0 : i = 0
  · rw [if_pos h0, if_pos h0]
  · rw [if_neg h0, if_neg h0, getD_snoc_lt _ _ _ (by omega)]
theorem lastAt_end (gl : List Gt) (g : Gt) : lastAt (gl ++ [g]) (gl.length + 1) = g.x := by
  unfold lastAt
  rw [if_neg (by omega), Nat.add_sub_cancel, getD_snoc_eq]
/-- What is left of a client: its parts. -/
theorem clientB_parts {i0 t0 : Int} {wl : List Wt} {gl : List Gt} (h : clientB i0 wl gl t0 = true) : (i0 = 4 ∨ i0 = 5) ∧ wl.length ≤ 12 ∧ wantsB wl = true ∧ gl.length ≤ wl.length ∧ (∀ j, j < gl.length → gotAt wl gl j = true) ∧ t0 = lastAt gl gl.length := by
  unfold clientB gotsB at h
  simp only [Bool.and_eq_true, Bool.or_eq_true, decide_eq_true_eq, List.all_eq_true, List.mem_range] at h
  exact ⟨h.1, h.2.1, h.2.2.1, h.2.2.2.1, h.2.2.2.2.1, h.2.2.2.2.2⟩
theorem clientB_mk {i0 t0 : Int} {wl : List Wt} {gl : List Gt} (h1 : i0 = 4 ∨ i0 = 5) (h2 : wl.length ≤ 12) (h3 : wantsB wl = true) (h4 : gl.length ≤ wl.length) (h5 : ∀ j, j < gl.length → gotAt wl gl j = true) (h6 : t0 = lastAt gl gl.length) : clientB i0 wl gl t0 = true := by
  unfold clientB gotsB
  simp only [Bool.and_eq_true, Bool.or_eq_true, decide_eq_true_eq, List.all_eq_true, List.mem_range]
  exact ⟨h1, h2, h3, h4, h5, h6⟩
theorem pend_yes {wl : List Wt} {gl : List Gt} {q : Int} (h : pendS wl gl = q) (hq : 1 ≤ q) : gl.length ≠ wl.length ∧ q = (gl.length : Int) + 1 ∧ pendW wl gl = wl.getD gl.length default := by
  unfold pendS at h
  by_cases he : gl.length = wl.length
  · rw [if_pos he] at h
    omega
  · rw [if_neg he] at h
    refine ⟨he, h.symm, ?_⟩
    unfold pendW
    rw [if_neg he]
theorem clientB_snoc {i0 t0 : Int} {wl : List Wt} {gl : List Gt} {g : Gt} (h : clientB i0 wl gl t0 = true) (hne : gl.length ≠ wl.length) (hg : gotB (wl.getD gl.length default).k g.q g.x g.h g.v ((gl.length : Int) + 1) t0 = true) : clientB i0 wl (gl ++ [g]) g.x = true := by
  obtain ⟨h1, h2, h3, h4, h5, h6⟩ := clientB_parts h
  refine clientB_mk h1 h2 h3 (by simp; omega) (fun j hj => ?_) (by rw [List.length_append]; exact (lastAt_end gl g).symm)
  simp only [List.length_append, List.length_singleton] at hj
  unfold gotAt
  rw [lastAt_snoc _ _ _ (by omega)]
  by_cases hlt : j < gl.length
  · rw [getD_snoc_lt _ _ _ hlt]
    exact h5 j hlt
  · have he : j = gl.length := by omega
    subst he
    rw [getD_snoc_eq, ← h6]
    exact hg
/-- The client behind what it heard. -/
def Heard (wl : List Wt) (gl : List Gt) (t0 seq idx : Int) (m' : Nat) (t' : Int) (gl' : List Gt) : Prop :=
  gl'.length = m' ∧ clientB 4 wl gl' t' = true ∧ (0 ≤ t' ∧ t' ≤ 2000) ∧ ((gl' = gl ∧ t' = t0) ∨ (∃ h v, gl' = gl ++ [⟨seq, idx, h, v⟩] ∧ t' = idx ∧ seq = (gl.length : Int) + 1 ∧ t0 ≤ idx))
theorem heard_ack {wl : List Wt} {gl : List Gt} {t0 c seq idx : Int} (hb : clientB 4 wl gl t0 = true) (h0 : 0 ≤ t0 ∧ t0 ≤ 2000) : ∃ t' gl', heardR 4 wl gl t0 (ackFit 4 wl gl t0 c seq idx seq) ⟨pendS wl gl, idx, 0, 0⟩ = (4, wl, gl', t') ∧ Heard wl gl t0 seq idx gl'.length t' gl' := by
  cases hf : ackFit 4 wl gl t0 c seq idx seq with
  | false => exact ⟨t0, gl, heardR_no hb rfl, rfl, hb, h0, .inl ⟨rfl, rfl⟩⟩
  | true =>
    unfold ackFit ackB at hf
    simp only [Bool.and_eq_true, decide_eq_true_eq, inB_iff] at hf
    rw [if_neg (by omega)] at hf
    simp only [inB_iff] at hf
    obtain ⟨⟨_, hq, _, hx⟩, _, hp, hk, ht⟩ := hf
    obtain ⟨hne, hsq, hw⟩ := pend_yes hp hq.1
    rw [hw] at hk
    refine ⟨idx, gl ++ [⟨pendS wl gl, idx, 0, 0⟩], heardR_yes hb rfl, rfl, clientB_snoc (g := ⟨pendS wl gl, idx, 0, 0⟩) hb hne ?_, by omega, .inr ⟨0, 0, by rw [hp], rfl, hsq, by omega⟩⟩
    unfold gotB
    simp only [Bool.and_eq_true, decide_eq_true_eq, inB_iff]
    rw [if_neg hk]
    simp only [Bool.and_eq_true, decide_eq_true_eq]
    refine ⟨by omega, by omega, by omega, ?_⟩
    simp
theorem heard_val {wl : List Wt} {gl : List Gt} {t0 c seq idx h v : Int} (hb : clientB 4 wl gl t0 = true) (h0 : 0 ≤ t0 ∧ t0 ≤ 2000) : ∃ t' gl', heardR 4 wl gl t0 (valFit 4 wl gl t0 c seq idx h v) ⟨pendS wl gl, idx, h, v⟩ = (4, wl, gl', t') ∧ Heard wl gl t0 seq idx gl'.length t' gl' := by
  cases hf : valFit 4 wl gl t0 c seq idx h v with
  | false => exact ⟨t0, gl, heardR_no hb rfl, rfl, hb, h0, .inl ⟨rfl, rfl⟩⟩
  | true =>
    unfold valFit valB at hf
    simp only [Bool.and_eq_true, decide_eq_true_eq, inB_iff] at hf
    obtain ⟨⟨_, hq, hx, hfd⟩, _, hp, hk, ht⟩ := hf
    obtain ⟨hne, hsq, hw⟩ := pend_yes hp hq.1
    rw [hw] at hk
    refine ⟨idx, gl ++ [⟨pendS wl gl, idx, h, v⟩], heardR_yes hb rfl, rfl, clientB_snoc (g := ⟨pendS wl gl, idx, h, v⟩) hb hne ?_, by omega, .inr ⟨h, v, by rw [hp], rfl, hsq, by omega⟩⟩
    unfold gotB
    simp only [Bool.and_eq_true, decide_eq_true_eq, inB_iff]
    rw [if_pos hk]
    exact ⟨by omega, by omega, hfd⟩
theorem heard_facts {wl : List Wt} {gl gl' : List Gt} {t0 seq idx t' : Int} {m m' : Nat} (h : Heard wl gl t0 seq idx m' t' gl') (hm : gl.length = m) : m ≤ m' ∧ m' ≤ m + 1 ∧ t0 ≤ t' ∧ ∀ j, j < m → gl'.getD j default = gl.getD j default := by
  obtain ⟨h1, _, _, h | h⟩ := h
  · obtain ⟨rfl, rfl⟩ := h
    exact ⟨by omega, by omega, by omega, fun _ _ => rfl⟩
  · obtain ⟨x, y, rfl, rfl, _, ht⟩ := h
    simp at h1
    exact ⟨by omega, by omega, ht, fun j hj => getD_snoc_lt _ _ _ (by omega)⟩
/-- What HeardAck and HeardValue hand back here. -/
def RetOnce (w : World) (N : Nat) (wl : List Wt) (gl : List Gt) (t0 seq idx : Int) (e : Ending) (w' : World) : Prop :=
  ∃ A' c' B' m' d' t' gl', e = .returned (.agg #[.int .i64 4, .slice A' N c', .slice B' m' d', .int .i64 t']) ∧ Heard wl gl t0 seq idx m' t' gl' ∧ Row w' w.heap.size 80 7 A' N c' (WT wl) ∧ Row w' w.heap.size 72 4 B' m' d' (GT gl') ∧ Below w.heap.size w w'
theorem heardAck_once (A : Option Addr) (N c : Nat) (B : Option Addr) (m d : Nat) (t0 : Int) (wl : List Wt) (gl : List Gt) (a0 seq idx : Int) (w : World) (hP : Sl w 7 A N (WT wl)) (hQ : Sl w 4 B m (GT gl)) (hl : wl.length = N) (hr : gl.length = m) (hb : clientB 4 wl gl t0 = true) (h0 : 0 ≤ t0 ∧ t0 ≤ 2000) :
    Calls Try.prog 43 #[.agg #[.int .i64 4, .slice A N c, .slice B m d, .int .i64 t0], .agg #[.int .i64 a0, .int .i64 seq, .int .i64 idx, .int .i64 seq]] w (RetOnce w N wl gl t0 seq idx) := by
  have hle := clientB_le hb
  have h := heardAck_any A N c B m d 4 t0 wl gl a0 seq idx seq w hP hQ hl hr (by unfold maxLen; omega) (by unfold maxLen; omega)
  obtain ⟨t', gl', hR, hH⟩ := heard_ack (c := a0) (seq := seq) (idx := idx) hb h0
  rw [hR] at h
  refine h.mono ?_
  rintro e w' ⟨A', c', B', d', rfl, P, Q, _, hbl⟩
  subst hl
  exact ⟨A', c', B', _, d', t', gl', rfl, hH, P, Q, hbl⟩
theorem heardValue_once (A : Option Addr) (N c : Nat) (B : Option Addr) (m d : Nat) (t0 : Int) (wl : List Wt) (gl : List Gt) (a0 seq idx h v : Int) (w : World) (hP : Sl w 7 A N (WT wl)) (hQ : Sl w 4 B m (GT gl)) (hl : wl.length = N) (hr : gl.length = m) (hb : clientB 4 wl gl t0 = true) (h0 : 0 ≤ t0 ∧ t0 ≤ 2000) :
    Calls Try.prog 40 #[.agg #[.int .i64 4, .slice A N c, .slice B m d, .int .i64 t0], .agg #[.int .i64 a0, .int .i64 seq, .int .i64 idx, .int .i64 h, .int .i64 v]] w (RetOnce w N wl gl t0 seq idx) := by
  have hle := clientB_le hb
  have e := heardValue_any A N c B m d 4 t0 wl gl a0 seq idx h v w hP hQ hl hr (by unfold maxLen; omega) (by unfold maxLen; omega)
  obtain ⟨t', gl', hR, hH⟩ := heard_val (c := a0) (seq := seq) (idx := idx) (h := h) (v := v) hb h0
  rw [hR] at e
  refine e.mono ?_
  rintro e w' ⟨A', c', B', d', rfl, P, Q, _, hbl⟩
  subst hl
  exact ⟨A', c', B', _, d', t', gl', rfl, hH, P, Q, hbl⟩
theorem acks_short {i0 t0 : Int} {wl : List Wt} {gl : List Gt} : (acksL i0 wl gl t0).length / 4 ≤ gl.length := by
  unfold acksL
  split
  · have := ackR_len i0 wl gl gl.length
    omega
  · simp
/-- Block g holds a client (4) over rows of its own behind p. -/
structure CB (w : World) (g p : Nat) (A : Option Addr) (N c : Nat) (B : Option Addr) (m d : Nat) (t0 : Int) (zp zq : List Int) : Prop where
  k : Blk w g 31 #[.int .i64 4, .slice A N c, .slice B m d, .int .i64 t0]
  P : Row w (p + 1) 80 7 A N c zp
  Q : Row w (p + 1) 72 4 B m d zq
  hp : p < g
  na : ∀ a, A = some a → a.block ≠ g
  nb : ∀ a, B = some a → a.block ≠ g
section
variable {w w' : World} {g p : Nat} {A : Option Addr} {N c : Nat} {B : Option Addr} {m d : Nat} {t0 : Int} {zp zq : List Int}
theorem CB.below (h : CB w g p A N c B m d t0 zp zq) (hb : Below w.heap.size w w') : CB w' g p A N c B m d t0 zp zq :=
  ⟨h.k.below hb, h.P.below hb, h.Q.below hb, h.hp, h.na, h.nb⟩
theorem CB.alloc (h : CB w g p A N c B m d t0 zp zq) (o : Obj) : CB (w.alloc o) g p A N c B m d t0 zp zq :=
  h.below ((Below.refl _ _).alloc (Nat.le_refl _) o)
theorem CB.dice (h : CB w g p A N c B m d t0 zp zq) (hw : Wrote w w' (some ⟨p, 0, none⟩)) : CB w' g p A N c B m d t0 zp zq :=
  ⟨h.k.wrote2 hw (Nat.ne_of_gt h.hp), rowd h.P hw (Nat.lt_succ_self p), rowd h.Q hw (Nat.lt_succ_self p), h.hp, h.na, h.nb⟩
theorem CB.copy (h : CB w g p A N c B m d t0 zp zq) : CB (w.alloc (.cells #[.int .i64 4, .slice A N c, .slice B m d, .int .i64 t0] 31)) w.heap.size p A N c B m d t0 zp zq :=
  ⟨Blk.new _ _ _, h.P.alloc _, h.Q.alloc _, Nat.lt_trans h.hp h.k.lt, fun a ha => Nat.ne_of_lt (h.P.lt a ha), fun a ha => Nat.ne_of_lt (h.Q.lt a ha)⟩
theorem CB.fresh (hP : Row w (p + 1) 80 7 A N c zp) (hQ : Row w (p + 1) 72 4 B m d zq) (hp : p < w.heap.size) : CB (w.alloc (.cells #[.int .i64 4, .slice A N c, .slice B m d, .int .i64 t0] 31)) w.heap.size p A N c B m d t0 zp zq :=
  ⟨Blk.new _ _ _, hP.alloc _, hQ.alloc _, hp, fun a ha => Nat.ne_of_lt (hP.lt a ha), fun a ha => Nat.ne_of_lt (hQ.lt a ha)⟩
theorem CB.far (h : CB w g p A N c B m d t0 zp zq) {q : Nat} (hg : g ≠ q) (ha : ∀ a, A = some a → a.block ≠ q) (hb : ∀ a, B = some a → a.block ≠ q) (i : Nat) (u : Value) : CB (w.setCell ⟨q, i, none⟩ u) g p A N c B m d t0 zp zq :=
  ⟨h.k.far hg u, h.P.far ha u, h.Q.far hb u, h.hp, h.na, h.nb⟩
theorem CB.far4 (h : CB w g p A N c B m d t0 zp zq) {q : Nat} (hg : g ≠ q) (ha : ∀ a, A = some a → a.block ≠ q) (hb : ∀ a, B = some a → a.block ≠ q) (y0 y1 y2 y3 : Value) : CB ((((w.setCell ⟨q, 0, none⟩ y0).setCell ⟨q, 1, none⟩ y1).setCell ⟨q, 2, none⟩ y2).setCell ⟨q, 3, none⟩ y3) g p A N c B m d t0 zp zq :=
  (((h.far hg ha hb 0 y0).far hg ha hb 1 y1).far hg ha hb 2 y2).far hg ha hb 3 y3
theorem CB.cells (h : CB w g p A N c B m d t0 zp zq) : w.cell? ⟨g, 0, none⟩ = some (.int .i64 4) ∧ w.cell? ⟨g, 1, none⟩ = some (.slice A N c) ∧ w.cell? ⟨g, 2, none⟩ = some (.slice B m d) ∧ w.cell? ⟨g, 3, none⟩ = some (.int .i64 t0) :=
  ⟨h.k.cell 0, h.k.cell 1, h.k.cell 2, h.k.cell 3⟩
theorem CB.cells_drew (h : CB w g p A N c B m d t0 zp zq) : w.drew.cell? ⟨g, 0, none⟩ = some (.int .i64 4) ∧ w.drew.cell? ⟨g, 1, none⟩ = some (.slice A N c) ∧ w.drew.cell? ⟨g, 2, none⟩ = some (.slice B m d) ∧ w.drew.cell? ⟨g, 3, none⟩ = some (.int .i64 t0) :=
  ⟨h.k.cell 0, h.k.cell 1, h.k.cell 2, h.k.cell 3⟩
/-- Another client is stored into the block. -/
theorem CB.put {A' : Option Addr} {N' c' : Nat} {B' : Option Addr} {m' d' : Nat} {t' : Int} {zp' zq' : List Int} (h : CB w g p A N c B m d t0 zp zq) (hP : Row w (p + 1) 80 7 A' N' c' zp') (hQ : Row w (p + 1) 72 4 B' m' d' zq') (ha : ∀ a, A' = some a → a.block ≠ g) (hb : ∀ a, B' = some a → a.block ≠ g) :
    CB ((((w.setCell ⟨g, 0, none⟩ (.int .i64 4)).setCell ⟨g, 1, none⟩ (.slice A' N' c')).setCell ⟨g, 2, none⟩ (.slice B' m' d')).setCell ⟨g, 3, none⟩ (.int .i64 t')) g p A' N' c' B' m' d' t' zp' zq' :=
  ⟨(((h.k.set_ 0 _).set_ 1 _).set_ 2 _).set_ 3 _, (((hP.far (p := ⟨g, 0, none⟩) ha _).far (p := ⟨g, 1, none⟩) ha _).far (p := ⟨g, 2, none⟩) ha _).far (p := ⟨g, 3, none⟩) ha _, (((hQ.far (p := ⟨g, 0, none⟩) hb _).far (p := ⟨g, 1, none⟩) hb _).far (p := ⟨g, 2, none⟩) hb _).far (p := ⟨g, 3, none⟩) hb _, h.hp, ha, hb⟩
end
theorem DC.far4 {w : World} {p D g : Nat} (h : DC w p D) (hg : p < g) (y0 y1 y2 y3 : Value) : DC ((((w.setCell ⟨g, 0, none⟩ y0).setCell ⟨g, 1, none⟩ y1).setCell ⟨g, 2, none⟩ y2).setCell ⟨g, 3, none⟩ y3) p D :=
  (((h.far (q := ⟨g, 0, none⟩) hg y0).far (q := ⟨g, 1, none⟩) hg y1).far (q := ⟨g, 2, none⟩) hg y2).far (q := ⟨g, 3, none⟩) hg y3
theorem below4 {w0 w : World} {lo g : Nat} (h : Below lo w0 w) (hg : lo ≤ g) (y0 y1 y2 y3 : Value) : Below lo w0 ((((w.setCell ⟨g, 0, none⟩ y0).setCell ⟨g, 1, none⟩ y1).setCell ⟨g, 2, none⟩ y2).setCell ⟨g, 3, none⟩ y3) :=
  (((h.setCell (p := ⟨g, 0, none⟩) hg y0).setCell (p := ⟨g, 1, none⟩) hg y1).setCell (p := ⟨g, 2, none⟩) hg y2).setCell (p := ⟨g, 3, none⟩) hg y3
end Go.Proofs.Ytbcpcddmekoaeaa
